/- The closed facts of this seat's program: its types and functions, as the kernel reckons them. Written by a program of the prover's own (gen.py). -/
import Derived.Test.YtdgbckfnamiebaaDoorOps8
import Derived.Test.YtdgbckfnamiebaaDoorProg
namespace Go.Proofs.YtdgbckfnamiebaaDoor.S
noncomputable abbrev P : Program := Go.Proofs.Tryd.prog
theorem mixed : P.follows .mixedOrders = true := by kernel_rfl
theorem one_0 : OneT P 0 true := by unfold OneT; kernel_rfl
theorem sz_0 : SizeIs P 0 1 := by unfold SizeIs; kernel_rfl
theorem ce_0 : P.cellsOf 0 = 1 := by kernel_rfl
theorem by_0 : BytesIs P 0 0 := by unfold BytesIs; kernel_rfl
theorem zr_0 : ZeroIs P 0 (.tuple #[]) := by unfold ZeroIs; kernel_rfl
theorem one_2 : OneT P 2 true := by unfold OneT; kernel_rfl
theorem sz_2 : SizeIs P 2 1 := by unfold SizeIs; kernel_rfl
theorem ce_2 : P.cellsOf 2 = 1 := by kernel_rfl
theorem by_2 : BytesIs P 2 8 := by unfold BytesIs; kernel_rfl
theorem zr_2 : ZeroIs P 2 (.int .i64 0) := by unfold ZeroIs; kernel_rfl
theorem ty_2 : P.underlying 2 = some (.int .i64) := by kernel_rfl
theorem one_3 : OneT P 3 true := by unfold OneT; kernel_rfl
theorem sz_3 : SizeIs P 3 1 := by unfold SizeIs; kernel_rfl
theorem ce_3 : P.cellsOf 3 = 1 := by kernel_rfl
theorem by_3 : BytesIs P 3 8 := by unfold BytesIs; kernel_rfl
theorem zr_3 : ZeroIs P 3 (.int .i64 0) := by unfold ZeroIs; kernel_rfl
theorem ty_3 : P.underlying 3 = some (.int .i64) := by kernel_rfl
theorem one_4 : OneT P 4 true := by unfold OneT; kernel_rfl
theorem sz_4 : SizeIs P 4 1 := by unfold SizeIs; kernel_rfl
theorem ce_4 : P.cellsOf 4 = 1 := by kernel_rfl
theorem by_4 : BytesIs P 4 1 := by unfold BytesIs; kernel_rfl
theorem zr_4 : ZeroIs P 4 (.bool false) := by unfold ZeroIs; kernel_rfl
theorem ty_4 : P.underlying 4 = some .bool := by kernel_rfl
theorem one_5 : OneT P 5 true := by unfold OneT; kernel_rfl
theorem sz_5 : SizeIs P 5 1 := by unfold SizeIs; kernel_rfl
theorem ce_5 : P.cellsOf 5 = 1 := by kernel_rfl
theorem by_5 : BytesIs P 5 1 := by unfold BytesIs; kernel_rfl
theorem zr_5 : ZeroIs P 5 (.int .u8 0) := by unfold ZeroIs; kernel_rfl
theorem ty_5 : P.underlying 5 = some (.int .u8) := by kernel_rfl
theorem one_6 : OneT P 6 true := by unfold OneT; kernel_rfl
theorem sz_6 : SizeIs P 6 1 := by unfold SizeIs; kernel_rfl
theorem ce_6 : P.cellsOf 6 = 1 := by kernel_rfl
theorem by_6 : BytesIs P 6 1 := by unfold BytesIs; kernel_rfl
theorem zr_6 : ZeroIs P 6 (.int .u8 0) := by unfold ZeroIs; kernel_rfl
theorem ty_6 : P.underlying 6 = some (.int .u8) := by kernel_rfl
theorem one_8 : OneT P 8 false := by unfold OneT; kernel_rfl
theorem sz_8 : SizeIs P 8 4 := by unfold SizeIs; kernel_rfl
theorem ce_8 : P.cellsOf 8 = 4 := by kernel_rfl
theorem by_8 : BytesIs P 8 24 := by unfold BytesIs; kernel_rfl
theorem zr_8 : ZeroIs P 8 (.agg #[.int .i64 0, .int .i64 0, .bool false, .int .u8 0]) := by unfold ZeroIs; kernel_rfl
theorem fl_8_0 : FieldIs P 8 0 0 := .of (k := 0) (by kernel_rfl)
theorem fl_8_1 : FieldIs P 8 1 1 := .of (k := 0) (by kernel_rfl)
theorem fl_8_2 : FieldIs P 8 2 2 := .of (k := 0) (by kernel_rfl)
theorem fl_8_3 : FieldIs P 8 3 3 := .of (k := 0) (by kernel_rfl)
theorem pl_8 : PlacesAre P 8 #[(0, 1), (1, 1), (2, 1), (3, 1)] := .of (by kernel_rfl)
theorem one_9 : OneT P 9 true := by unfold OneT; kernel_rfl
theorem sz_9 : SizeIs P 9 1 := by unfold SizeIs; kernel_rfl
theorem ce_9 : P.cellsOf 9 = 1 := by kernel_rfl
theorem by_9 : BytesIs P 9 16 := by unfold BytesIs; kernel_rfl
theorem zr_9 : ZeroIs P 9 (.string ⟨#[]⟩) := by unfold ZeroIs; kernel_rfl
theorem ty_9 : P.underlying 9 = some .string := by kernel_rfl
theorem kd_9 : Kd P 9 := .inr ty_9
theorem one_10 : OneT P 10 true := by unfold OneT; kernel_rfl
theorem sz_10 : SizeIs P 10 1 := by unfold SizeIs; kernel_rfl
theorem ce_10 : P.cellsOf 10 = 1 := by kernel_rfl
theorem by_10 : BytesIs P 10 16 := by unfold BytesIs; kernel_rfl
theorem zr_10 : ZeroIs P 10 (.string ⟨#[]⟩) := by unfold ZeroIs; kernel_rfl
theorem ty_10 : P.underlying 10 = some .string := by kernel_rfl
theorem kd_10 : Kd P 10 := .inr ty_10
theorem one_11 : OneT P 11 true := by unfold OneT; kernel_rfl
theorem sz_11 : SizeIs P 11 1 := by unfold SizeIs; kernel_rfl
theorem ce_11 : P.cellsOf 11 = 1 := by kernel_rfl
theorem by_11 : BytesIs P 11 16 := by unfold BytesIs; kernel_rfl
theorem zr_11 : ZeroIs P 11 (.string ⟨#[]⟩) := by unfold ZeroIs; kernel_rfl
theorem ty_11 : P.underlying 11 = some .string := by kernel_rfl
theorem kd_11 : Kd P 11 := .inr ty_11
theorem one_12 : OneT P 12 true := by unfold OneT; kernel_rfl
theorem sz_12 : SizeIs P 12 1 := by unfold SizeIs; kernel_rfl
theorem ce_12 : P.cellsOf 12 = 1 := by kernel_rfl
theorem by_12 : BytesIs P 12 8 := by unfold BytesIs; kernel_rfl
theorem zr_12 : ZeroIs P 12 (.int .u64 0) := by unfold ZeroIs; kernel_rfl
theorem ty_12 : P.underlying 12 = some (.int .u64) := by kernel_rfl
theorem one_14 : OneT P 14 false := by unfold OneT; kernel_rfl
theorem sz_14 : SizeIs P 14 2 := by unfold SizeIs; kernel_rfl
theorem ce_14 : P.cellsOf 14 = 2 := by kernel_rfl
theorem by_14 : BytesIs P 14 24 := by unfold BytesIs; kernel_rfl
theorem zr_14 : ZeroIs P 14 (.agg #[.string ⟨#[]⟩, .int .u64 0]) := by unfold ZeroIs; kernel_rfl
theorem fl_14_0 : FieldIs P 14 0 0 := .of (k := 0) (by kernel_rfl)
theorem fl_14_1 : FieldIs P 14 1 1 := .of (k := 0) (by kernel_rfl)
theorem pl_14 : PlacesAre P 14 #[(0, 1), (1, 1)] := .of (by kernel_rfl)
theorem one_15 : OneT P 15 true := by unfold OneT; kernel_rfl
theorem sz_15 : SizeIs P 15 1 := by unfold SizeIs; kernel_rfl
theorem ce_15 : P.cellsOf 15 = 1 := by kernel_rfl
theorem by_15 : BytesIs P 15 8 := by unfold BytesIs; kernel_rfl
theorem zr_15 : ZeroIs P 15 (.pointer none) := by unfold ZeroIs; kernel_rfl
theorem ty_15 : P.underlying 15 = some (.pointer 77) := by kernel_rfl
theorem one_16 : OneT P 16 true := by unfold OneT; kernel_rfl
theorem sz_16 : SizeIs P 16 1 := by unfold SizeIs; kernel_rfl
theorem ce_16 : P.cellsOf 16 = 1 := by kernel_rfl
theorem by_16 : BytesIs P 16 8 := by unfold BytesIs; kernel_rfl
theorem zr_16 : ZeroIs P 16 (.pointer none) := by unfold ZeroIs; kernel_rfl
theorem ty_16 : P.underlying 16 = some (.pointer 80) := by kernel_rfl
theorem one_17 : OneT P 17 true := by unfold OneT; kernel_rfl
theorem sz_17 : SizeIs P 17 1 := by unfold SizeIs; kernel_rfl
theorem ce_17 : P.cellsOf 17 = 1 := by kernel_rfl
theorem by_17 : BytesIs P 17 8 := by unfold BytesIs; kernel_rfl
theorem zr_17 : ZeroIs P 17 (.pointer none) := by unfold ZeroIs; kernel_rfl
theorem ty_17 : P.underlying 17 = some (.pointer 88) := by kernel_rfl
theorem one_19 : OneT P 19 false := by unfold OneT; kernel_rfl
theorem sz_19 : SizeIs P 19 1 := by unfold SizeIs; kernel_rfl
theorem ce_19 : P.cellsOf 19 = 1 := by kernel_rfl
theorem by_19 : BytesIs P 19 8 := by unfold BytesIs; kernel_rfl
theorem zr_19 : ZeroIs P 19 (.agg #[.pointer none]) := by unfold ZeroIs; kernel_rfl
theorem fl_19_0 : FieldIs P 19 0 0 := .of (k := 0) (by kernel_rfl)
theorem pl_19 : PlacesAre P 19 #[(0, 1)] := .of (by kernel_rfl)
theorem one_21 : OneT P 21 true := by unfold OneT; kernel_rfl
theorem sz_21 : SizeIs P 21 1 := by unfold SizeIs; kernel_rfl
theorem ce_21 : P.cellsOf 21 = 1 := by kernel_rfl
theorem by_21 : BytesIs P 21 4 := by unfold BytesIs; kernel_rfl
theorem zr_21 : ZeroIs P 21 (.int .i32 0) := by unfold ZeroIs; kernel_rfl
theorem ty_21 : P.underlying 21 = some (.int .i32) := by kernel_rfl
theorem one_22 : OneT P 22 true := by unfold OneT; kernel_rfl
theorem sz_22 : SizeIs P 22 1 := by unfold SizeIs; kernel_rfl
theorem ce_22 : P.cellsOf 22 = 1 := by kernel_rfl
theorem by_22 : BytesIs P 22 4 := by unfold BytesIs; kernel_rfl
theorem zr_22 : ZeroIs P 22 (.int .u32 0) := by unfold ZeroIs; kernel_rfl
theorem ty_22 : P.underlying 22 = some (.int .u32) := by kernel_rfl
theorem one_23 : OneT P 23 false := by unfold OneT; kernel_rfl
theorem sz_23 : SizeIs P 23 6 := by unfold SizeIs; kernel_rfl
theorem ce_23 : P.cellsOf 23 = 6 := by kernel_rfl
theorem by_23 : BytesIs P 23 24 := by unfold BytesIs; kernel_rfl
theorem zr_23 : ZeroIs P 23 (.agg #[.int .u32 0, .int .u32 0, .int .u32 0, .int .u32 0, .int .u32 0, .int .u32 0]) := by unfold ZeroIs; kernel_rfl
theorem ty_23 : P.underlying 23 = some (.array 6 22) := by kernel_rfl
theorem eg_23 : Program.eqGuardType P P.depth 23 = false := by kernel_rfl
theorem one_24 : OneT P 24 false := by unfold OneT; kernel_rfl
theorem sz_24 : SizeIs P 24 6 := by unfold SizeIs; kernel_rfl
theorem ce_24 : P.cellsOf 24 = 6 := by kernel_rfl
theorem by_24 : BytesIs P 24 24 := by unfold BytesIs; kernel_rfl
theorem zr_24 : ZeroIs P 24 (.agg #[.int .u32 0, .int .u32 0, .int .u32 0, .int .u32 0, .int .u32 0, .int .u32 0]) := by unfold ZeroIs; kernel_rfl
theorem ty_24 : P.underlying 24 = some (.array 6 22) := by kernel_rfl
theorem eg_24 : Program.eqGuardType P P.depth 24 = false := by kernel_rfl
theorem one_26 : OneT P 26 true := by unfold OneT; kernel_rfl
theorem sz_26 : SizeIs P 26 1 := by unfold SizeIs; kernel_rfl
theorem ce_26 : P.cellsOf 26 = 1 := by kernel_rfl
theorem by_26 : BytesIs P 26 8 := by unfold BytesIs; kernel_rfl
theorem zr_26 : ZeroIs P 26 (.int .i64 0) := by unfold ZeroIs; kernel_rfl
theorem ty_26 : P.underlying 26 = some (.int .i64) := by kernel_rfl
theorem one_27 : OneT P 27 true := by unfold OneT; kernel_rfl
theorem sz_27 : SizeIs P 27 1 := by unfold SizeIs; kernel_rfl
theorem ce_27 : P.cellsOf 27 = 1 := by kernel_rfl
theorem by_27 : BytesIs P 27 0 := by unfold BytesIs; kernel_rfl
theorem zr_27 : ZeroIs P 27 (.tuple #[.agg #[.int .u32 0, .int .u32 0, .int .u32 0, .int .u32 0, .int .u32 0, .int .u32 0], .int .i64 0]) := by unfold ZeroIs; kernel_rfl
theorem one_29 : OneT P 29 true := by unfold OneT; kernel_rfl
theorem sz_29 : SizeIs P 29 1 := by unfold SizeIs; kernel_rfl
theorem ce_29 : P.cellsOf 29 = 1 := by kernel_rfl
theorem by_29 : BytesIs P 29 0 := by unfold BytesIs; kernel_rfl
theorem zr_29 : ZeroIs P 29 (.tuple #[.agg #[.int .u32 0, .int .u32 0, .int .u32 0, .int .u32 0, .int .u32 0, .int .u32 0], .int .i64 0]) := by unfold ZeroIs; kernel_rfl
theorem one_34 : OneT P 34 true := by unfold OneT; kernel_rfl
theorem sz_34 : SizeIs P 34 1 := by unfold SizeIs; kernel_rfl
theorem ce_34 : P.cellsOf 34 = 1 := by kernel_rfl
theorem by_34 : BytesIs P 34 24 := by unfold BytesIs; kernel_rfl
theorem zr_34 : ZeroIs P 34 (.slice none 0 0) := by unfold ZeroIs; kernel_rfl
theorem ty_34 : P.underlying 34 = some (.slice 5) := by kernel_rfl
theorem kd_34 : Kd P 34 := .inl ⟨_, ty_34⟩
theorem one_37 : OneT P 37 true := by unfold OneT; kernel_rfl
theorem sz_37 : SizeIs P 37 1 := by unfold SizeIs; kernel_rfl
theorem ce_37 : P.cellsOf 37 = 1 := by kernel_rfl
theorem by_37 : BytesIs P 37 24 := by unfold BytesIs; kernel_rfl
theorem zr_37 : ZeroIs P 37 (.slice none 0 0) := by unfold ZeroIs; kernel_rfl
theorem ty_37 : P.underlying 37 = some (.slice 9) := by kernel_rfl
theorem kd_37 : Kd P 37 := .inl ⟨_, ty_37⟩
theorem one_40 : OneT P 40 true := by unfold OneT; kernel_rfl
theorem sz_40 : SizeIs P 40 1 := by unfold SizeIs; kernel_rfl
theorem ce_40 : P.cellsOf 40 = 1 := by kernel_rfl
theorem by_40 : BytesIs P 40 8 := by unfold BytesIs; kernel_rfl
theorem zr_40 : ZeroIs P 40 (.pointer none) := by unfold ZeroIs; kernel_rfl
theorem ty_40 : P.underlying 40 = some (.pointer 42) := by kernel_rfl
theorem one_42 : OneT P 42 false := by unfold OneT; kernel_rfl
theorem sz_42 : SizeIs P 42 2 := by unfold SizeIs; kernel_rfl
theorem ce_42 : P.cellsOf 42 = 2 := by kernel_rfl
theorem by_42 : BytesIs P 42 32 := by unfold BytesIs; kernel_rfl
theorem zr_42 : ZeroIs P 42 (.agg #[.pointer none, .slice none 0 0]) := by unfold ZeroIs; kernel_rfl
theorem fl_42_0 : FieldIs P 42 0 0 := .of (k := 0) (by kernel_rfl)
theorem fl_42_1 : FieldIs P 42 1 1 := .of (k := 0) (by kernel_rfl)
theorem pl_42 : PlacesAre P 42 #[(0, 1), (1, 1)] := .of (by kernel_rfl)
theorem one_44 : OneT P 44 true := by unfold OneT; kernel_rfl
theorem sz_44 : SizeIs P 44 1 := by unfold SizeIs; kernel_rfl
theorem ce_44 : P.cellsOf 44 = 1 := by kernel_rfl
theorem by_44 : BytesIs P 44 16 := by unfold BytesIs; kernel_rfl
theorem zr_44 : ZeroIs P 44 (.nilIface) := by unfold ZeroIs; kernel_rfl
theorem one_50 : OneT P 50 false := by unfold OneT; kernel_rfl
theorem sz_50 : SizeIs P 50 256 := by unfold SizeIs; kernel_rfl
theorem ce_50 : P.cellsOf 50 = 256 := by kernel_rfl
theorem by_50 : BytesIs P 50 256 := by unfold BytesIs; kernel_rfl
theorem zr_50 : ZeroIs P 50 (.agg #[.bool false, .bool false, .bool false, .bool false, .bool false, .bool false, .bool false, .bool false, .bool false, .bool false, .bool false, .bool false, .bool false, .bool false, .bool false, .bool false, .bool false, .bool false, .bool false, .bool false, .bool false, .bool false, .bool false, .bool false, .bool false, .bool false, .bool false, .bool false, .bool false, .bool false, .bool false, .bool false, .bool false, .bool false, .bool false, .bool false, .bool false, .bool false, .bool false, .bool false, .bool false, .bool false, .bool false, .bool false, .bool false, .bool false, .bool false, .bool false, .bool false, .bool false, .bool false, .bool false, .bool false, .bool false, .bool false, .bool false, .bool false, .bool false, .bool false, .bool false, .bool false, .bool false, .bool false, .bool false, .bool false, .bool false, .bool false, .bool false, .bool false, .bool false, .bool false, .bool false, .bool false, .bool false, .bool false, .bool false, .bool false, .bool false, .bool false, .bool false, .bool false, .bool false, .bool false, .bool false, .bool false, .bool false, .bool false, .bool false, .bool false, .bool false, .bool false, .bool false, .bool false, .bool false, .bool false, .bool false, .bool false, .bool false, .bool false, .bool false, .bool false, .bool false, .bool false, .bool false, .bool false, .bool false, .bool false, .bool false, .bool false, .bool false, .bool false, .bool false, .bool false, .bool false, .bool false, .bool false, .bool false, .bool false, .bool false, .bool false, .bool false, .bool false, .bool false, .bool false, .bool false, .bool false, .bool false, .bool false, .bool false, .bool false, .bool false, .bool false, .bool false, .bool false, .bool false, .bool false, .bool false, .bool false, .bool false, .bool false, .bool false, .bool false, .bool false, .bool false, .bool false, .bool false, .bool false, .bool false, .bool false, .bool false, .bool false, .bool false, .bool false, .bool false, .bool false, .bool false, .bool false, .bool false, .bool false, .bool false, .bool false, .bool false, .bool false, .bool false, .bool false, .bool false, .bool false, .bool false, .bool false, .bool false, .bool false, .bool false, .bool false, .bool false, .bool false, .bool false, .bool false, .bool false, .bool false, .bool false, .bool false, .bool false, .bool false, .bool false, .bool false, .bool false, .bool false, .bool false, .bool false, .bool false, .bool false, .bool false, .bool false, .bool false, .bool false, .bool false, .bool false, .bool false, .bool false, .bool false, .bool false, .bool false, .bool false, .bool false, .bool false, .bool false, .bool false, .bool false, .bool false, .bool false, .bool false, .bool false, .bool false, .bool false, .bool false, .bool false, .bool false, .bool false, .bool false, .bool false, .bool false, .bool false, .bool false, .bool false, .bool false, .bool false, .bool false, .bool false, .bool false, .bool false, .bool false, .bool false, .bool false, .bool false, .bool false, .bool false, .bool false, .bool false, .bool false, .bool false, .bool false, .bool false, .bool false, .bool false, .bool false, .bool false, .bool false, .bool false, .bool false, .bool false, .bool false, .bool false, .bool false, .bool false, .bool false, .bool false]) := by unfold ZeroIs; kernel_rfl
theorem ty_50 : P.underlying 50 = some (.array 256 4) := by kernel_rfl
theorem eg_50 : Program.eqGuardType P P.depth 50 = false := by kernel_rfl
theorem one_51 : OneT P 51 true := by unfold OneT; kernel_rfl
theorem sz_51 : SizeIs P 51 1 := by unfold SizeIs; kernel_rfl
theorem ce_51 : P.cellsOf 51 = 1 := by kernel_rfl
theorem by_51 : BytesIs P 51 0 := by unfold BytesIs; kernel_rfl
theorem zr_51 : ZeroIs P 51 (.tuple #[.agg #[.bool false, .bool false, .bool false, .bool false, .bool false, .bool false, .bool false, .bool false, .bool false, .bool false, .bool false, .bool false, .bool false, .bool false, .bool false, .bool false, .bool false, .bool false, .bool false, .bool false, .bool false, .bool false, .bool false, .bool false, .bool false, .bool false, .bool false, .bool false, .bool false, .bool false, .bool false, .bool false, .bool false, .bool false, .bool false, .bool false, .bool false, .bool false, .bool false, .bool false, .bool false, .bool false, .bool false, .bool false, .bool false, .bool false, .bool false, .bool false, .bool false, .bool false, .bool false, .bool false, .bool false, .bool false, .bool false, .bool false, .bool false, .bool false, .bool false, .bool false, .bool false, .bool false, .bool false, .bool false, .bool false, .bool false, .bool false, .bool false, .bool false, .bool false, .bool false, .bool false, .bool false, .bool false, .bool false, .bool false, .bool false, .bool false, .bool false, .bool false, .bool false, .bool false, .bool false, .bool false, .bool false, .bool false, .bool false, .bool false, .bool false, .bool false, .bool false, .bool false, .bool false, .bool false, .bool false, .bool false, .bool false, .bool false, .bool false, .bool false, .bool false, .bool false, .bool false, .bool false, .bool false, .bool false, .bool false, .bool false, .bool false, .bool false, .bool false, .bool false, .bool false, .bool false, .bool false, .bool false, .bool false, .bool false, .bool false, .bool false, .bool false, .bool false, .bool false, .bool false, .bool false, .bool false, .bool false, .bool false, .bool false, .bool false, .bool false, .bool false, .bool false, .bool false, .bool false, .bool false, .bool false, .bool false, .bool false, .bool false, .bool false, .bool false, .bool false, .bool false, .bool false, .bool false, .bool false, .bool false, .bool false, .bool false, .bool false, .bool false, .bool false, .bool false, .bool false, .bool false, .bool false, .bool false, .bool false, .bool false, .bool false, .bool false, .bool false, .bool false, .bool false, .bool false, .bool false, .bool false, .bool false, .bool false, .bool false, .bool false, .bool false, .bool false, .bool false, .bool false, .bool false, .bool false, .bool false, .bool false, .bool false, .bool false, .bool false, .bool false, .bool false, .bool false, .bool false, .bool false, .bool false, .bool false, .bool false, .bool false, .bool false, .bool false, .bool false, .bool false, .bool false, .bool false, .bool false, .bool false, .bool false, .bool false, .bool false, .bool false, .bool false, .bool false, .bool false, .bool false, .bool false, .bool false, .bool false, .bool false, .bool false, .bool false, .bool false, .bool false, .bool false, .bool false, .bool false, .bool false, .bool false, .bool false, .bool false, .bool false, .bool false, .bool false, .bool false, .bool false, .bool false, .bool false, .bool false, .bool false, .bool false, .bool false, .bool false, .bool false, .bool false, .bool false, .bool false, .bool false, .bool false, .bool false, .bool false, .bool false, .bool false, .bool false, .bool false, .bool false, .bool false, .bool false, .bool false, .bool false, .bool false, .bool false, .bool false, .bool false], .bool false]) := by unfold ZeroIs; kernel_rfl
theorem one_54 : OneT P 54 true := by unfold OneT; kernel_rfl
theorem sz_54 : SizeIs P 54 1 := by unfold SizeIs; kernel_rfl
theorem ce_54 : P.cellsOf 54 = 1 := by kernel_rfl
theorem by_54 : BytesIs P 54 8 := by unfold BytesIs; kernel_rfl
theorem zr_54 : ZeroIs P 54 (.pointer none) := by unfold ZeroIs; kernel_rfl
theorem ty_54 : P.underlying 54 = some (.pointer 50) := by kernel_rfl
theorem one_55 : OneT P 55 true := by unfold OneT; kernel_rfl
theorem sz_55 : SizeIs P 55 1 := by unfold SizeIs; kernel_rfl
theorem ce_55 : P.cellsOf 55 = 1 := by kernel_rfl
theorem by_55 : BytesIs P 55 8 := by unfold BytesIs; kernel_rfl
theorem zr_55 : ZeroIs P 55 (.pointer none) := by unfold ZeroIs; kernel_rfl
theorem ty_55 : P.underlying 55 = some (.pointer 5) := by kernel_rfl
theorem one_59 : OneT P 59 true := by unfold OneT; kernel_rfl
theorem sz_59 : SizeIs P 59 1 := by unfold SizeIs; kernel_rfl
theorem ce_59 : P.cellsOf 59 = 1 := by kernel_rfl
theorem by_59 : BytesIs P 59 0 := by unfold BytesIs; kernel_rfl
theorem zr_59 : ZeroIs P 59 (.tuple #[.int .i32 0, .int .i64 0]) := by unfold ZeroIs; kernel_rfl
theorem one_62 : OneT P 62 true := by unfold OneT; kernel_rfl
theorem sz_62 : SizeIs P 62 1 := by unfold SizeIs; kernel_rfl
theorem ce_62 : P.cellsOf 62 = 1 := by kernel_rfl
theorem by_62 : BytesIs P 62 8 := by unfold BytesIs; kernel_rfl
theorem zr_62 : ZeroIs P 62 (.pointer none) := by unfold ZeroIs; kernel_rfl
theorem one_69 : OneT P 69 false := by unfold OneT; kernel_rfl
theorem sz_69 : SizeIs P 69 256 := by unfold SizeIs; kernel_rfl
theorem ce_69 : P.cellsOf 69 = 256 := by kernel_rfl
theorem by_69 : BytesIs P 69 256 := by unfold BytesIs; kernel_rfl
theorem zr_69 : ZeroIs P 69 (.agg #[.int .u8 0, .int .u8 0, .int .u8 0, .int .u8 0, .int .u8 0, .int .u8 0, .int .u8 0, .int .u8 0, .int .u8 0, .int .u8 0, .int .u8 0, .int .u8 0, .int .u8 0, .int .u8 0, .int .u8 0, .int .u8 0, .int .u8 0, .int .u8 0, .int .u8 0, .int .u8 0, .int .u8 0, .int .u8 0, .int .u8 0, .int .u8 0, .int .u8 0, .int .u8 0, .int .u8 0, .int .u8 0, .int .u8 0, .int .u8 0, .int .u8 0, .int .u8 0, .int .u8 0, .int .u8 0, .int .u8 0, .int .u8 0, .int .u8 0, .int .u8 0, .int .u8 0, .int .u8 0, .int .u8 0, .int .u8 0, .int .u8 0, .int .u8 0, .int .u8 0, .int .u8 0, .int .u8 0, .int .u8 0, .int .u8 0, .int .u8 0, .int .u8 0, .int .u8 0, .int .u8 0, .int .u8 0, .int .u8 0, .int .u8 0, .int .u8 0, .int .u8 0, .int .u8 0, .int .u8 0, .int .u8 0, .int .u8 0, .int .u8 0, .int .u8 0, .int .u8 0, .int .u8 0, .int .u8 0, .int .u8 0, .int .u8 0, .int .u8 0, .int .u8 0, .int .u8 0, .int .u8 0, .int .u8 0, .int .u8 0, .int .u8 0, .int .u8 0, .int .u8 0, .int .u8 0, .int .u8 0, .int .u8 0, .int .u8 0, .int .u8 0, .int .u8 0, .int .u8 0, .int .u8 0, .int .u8 0, .int .u8 0, .int .u8 0, .int .u8 0, .int .u8 0, .int .u8 0, .int .u8 0, .int .u8 0, .int .u8 0, .int .u8 0, .int .u8 0, .int .u8 0, .int .u8 0, .int .u8 0, .int .u8 0, .int .u8 0, .int .u8 0, .int .u8 0, .int .u8 0, .int .u8 0, .int .u8 0, .int .u8 0, .int .u8 0, .int .u8 0, .int .u8 0, .int .u8 0, .int .u8 0, .int .u8 0, .int .u8 0, .int .u8 0, .int .u8 0, .int .u8 0, .int .u8 0, .int .u8 0, .int .u8 0, .int .u8 0, .int .u8 0, .int .u8 0, .int .u8 0, .int .u8 0, .int .u8 0, .int .u8 0, .int .u8 0, .int .u8 0, .int .u8 0, .int .u8 0, .int .u8 0, .int .u8 0, .int .u8 0, .int .u8 0, .int .u8 0, .int .u8 0, .int .u8 0, .int .u8 0, .int .u8 0, .int .u8 0, .int .u8 0, .int .u8 0, .int .u8 0, .int .u8 0, .int .u8 0, .int .u8 0, .int .u8 0, .int .u8 0, .int .u8 0, .int .u8 0, .int .u8 0, .int .u8 0, .int .u8 0, .int .u8 0, .int .u8 0, .int .u8 0, .int .u8 0, .int .u8 0, .int .u8 0, .int .u8 0, .int .u8 0, .int .u8 0, .int .u8 0, .int .u8 0, .int .u8 0, .int .u8 0, .int .u8 0, .int .u8 0, .int .u8 0, .int .u8 0, .int .u8 0, .int .u8 0, .int .u8 0, .int .u8 0, .int .u8 0, .int .u8 0, .int .u8 0, .int .u8 0, .int .u8 0, .int .u8 0, .int .u8 0, .int .u8 0, .int .u8 0, .int .u8 0, .int .u8 0, .int .u8 0, .int .u8 0, .int .u8 0, .int .u8 0, .int .u8 0, .int .u8 0, .int .u8 0, .int .u8 0, .int .u8 0, .int .u8 0, .int .u8 0, .int .u8 0, .int .u8 0, .int .u8 0, .int .u8 0, .int .u8 0, .int .u8 0, .int .u8 0, .int .u8 0, .int .u8 0, .int .u8 0, .int .u8 0, .int .u8 0, .int .u8 0, .int .u8 0, .int .u8 0, .int .u8 0, .int .u8 0, .int .u8 0, .int .u8 0, .int .u8 0, .int .u8 0, .int .u8 0, .int .u8 0, .int .u8 0, .int .u8 0, .int .u8 0, .int .u8 0, .int .u8 0, .int .u8 0, .int .u8 0, .int .u8 0, .int .u8 0, .int .u8 0, .int .u8 0, .int .u8 0, .int .u8 0, .int .u8 0, .int .u8 0, .int .u8 0, .int .u8 0, .int .u8 0, .int .u8 0, .int .u8 0, .int .u8 0, .int .u8 0, .int .u8 0, .int .u8 0, .int .u8 0, .int .u8 0, .int .u8 0, .int .u8 0, .int .u8 0, .int .u8 0, .int .u8 0, .int .u8 0, .int .u8 0, .int .u8 0, .int .u8 0]) := by unfold ZeroIs; kernel_rfl
theorem ty_69 : P.underlying 69 = some (.array 256 5) := by kernel_rfl
theorem eg_69 : Program.eqGuardType P P.depth 69 = false := by kernel_rfl
theorem one_71 : OneT P 71 false := by unfold OneT; kernel_rfl
theorem sz_71 : SizeIs P 71 2 := by unfold SizeIs; kernel_rfl
theorem ce_71 : P.cellsOf 71 = 2 := by kernel_rfl
theorem by_71 : BytesIs P 71 2 := by unfold BytesIs; kernel_rfl
theorem zr_71 : ZeroIs P 71 (.agg #[.int .u8 0, .int .u8 0]) := by unfold ZeroIs; kernel_rfl
theorem fl_71_0 : FieldIs P 71 0 0 := .of (k := 0) (by kernel_rfl)
theorem fl_71_1 : FieldIs P 71 1 1 := .of (k := 0) (by kernel_rfl)
theorem pl_71 : PlacesAre P 71 #[(0, 1), (1, 1)] := .of (by kernel_rfl)
theorem one_72 : OneT P 72 false := by unfold OneT; kernel_rfl
theorem sz_72 : SizeIs P 72 32 := by unfold SizeIs; kernel_rfl
theorem ce_72 : P.cellsOf 72 = 32 := by kernel_rfl
theorem by_72 : BytesIs P 72 32 := by unfold BytesIs; kernel_rfl
theorem zr_72 : ZeroIs P 72 (.agg #[.int .u8 0, .int .u8 0, .int .u8 0, .int .u8 0, .int .u8 0, .int .u8 0, .int .u8 0, .int .u8 0, .int .u8 0, .int .u8 0, .int .u8 0, .int .u8 0, .int .u8 0, .int .u8 0, .int .u8 0, .int .u8 0, .int .u8 0, .int .u8 0, .int .u8 0, .int .u8 0, .int .u8 0, .int .u8 0, .int .u8 0, .int .u8 0, .int .u8 0, .int .u8 0, .int .u8 0, .int .u8 0, .int .u8 0, .int .u8 0, .int .u8 0, .int .u8 0]) := by unfold ZeroIs; kernel_rfl
theorem ty_72 : P.underlying 72 = some (.array 16 71) := by kernel_rfl
theorem eg_72 : Program.eqGuardType P P.depth 72 = false := by kernel_rfl
theorem one_74 : OneT P 74 true := by unfold OneT; kernel_rfl
theorem sz_74 : SizeIs P 74 1 := by unfold SizeIs; kernel_rfl
theorem ce_74 : P.cellsOf 74 = 1 := by kernel_rfl
theorem by_74 : BytesIs P 74 0 := by unfold BytesIs; kernel_rfl
theorem zr_74 : ZeroIs P 74 (.tuple #[.int .u32 0, .int .u32 0]) := by unfold ZeroIs; kernel_rfl
theorem one_83 : OneT P 83 true := by unfold OneT; kernel_rfl
theorem sz_83 : SizeIs P 83 1 := by unfold SizeIs; kernel_rfl
theorem ce_83 : P.cellsOf 83 = 1 := by kernel_rfl
theorem by_83 : BytesIs P 83 1 := by unfold BytesIs; kernel_rfl
theorem zr_83 : ZeroIs P 83 (.int .u8 0) := by unfold ZeroIs; kernel_rfl
theorem ty_83 : P.underlying 83 = some (.int .u8) := by kernel_rfl
theorem has_2 : Has P 2 := ⟨_, Go.Proofs.Tryd.func2, by kernel_rfl, by kernel_rfl⟩
theorem has_3 : Has P 3 := ⟨_, Go.Proofs.Tryd.func3, by kernel_rfl, by kernel_rfl⟩
theorem has_4 : Has P 4 := ⟨_, Go.Proofs.Tryd.func4, by kernel_rfl, by kernel_rfl⟩
theorem has_5 : Has P 5 := ⟨_, Go.Proofs.Tryd.func5, by kernel_rfl, by kernel_rfl⟩
theorem has_6 : Has P 6 := ⟨_, Go.Proofs.Tryd.func6, by kernel_rfl, by kernel_rfl⟩
theorem has_7 : Has P 7 := ⟨_, Go.Proofs.Tryd.func7, by kernel_rfl, by kernel_rfl⟩
theorem has_8 : Has P 8 := ⟨_, Go.Proofs.Tryd.func8, by kernel_rfl, by kernel_rfl⟩
theorem has_9 : Has P 9 := ⟨_, Go.Proofs.Tryd.func9, by kernel_rfl, by kernel_rfl⟩
theorem has_10 : Has P 10 := ⟨_, Go.Proofs.Tryd.func10, by kernel_rfl, by kernel_rfl⟩
theorem has_11 : Has P 11 := ⟨_, Go.Proofs.Tryd.func11, by kernel_rfl, by kernel_rfl⟩
theorem has_12 : Has P 12 := ⟨_, Go.Proofs.Tryd.func12, by kernel_rfl, by kernel_rfl⟩
theorem has_13 : Has P 13 := ⟨_, Go.Proofs.Tryd.func13, by kernel_rfl, by kernel_rfl⟩
theorem has_14 : Has P 14 := ⟨_, Go.Proofs.Tryd.func14, by kernel_rfl, by kernel_rfl⟩
theorem has_15 : Has P 15 := ⟨_, Go.Proofs.Tryd.func15, by kernel_rfl, by kernel_rfl⟩
theorem has_16 : Has P 16 := ⟨_, Go.Proofs.Tryd.func16, by kernel_rfl, by kernel_rfl⟩
theorem has_17 : Has P 17 := ⟨_, Go.Proofs.Tryd.func17, by kernel_rfl, by kernel_rfl⟩
theorem has_18 : Has P 18 := ⟨_, Go.Proofs.Tryd.func18, by kernel_rfl, by kernel_rfl⟩
theorem has_19 : Has P 19 := ⟨_, Go.Proofs.Tryd.func19, by kernel_rfl, by kernel_rfl⟩
theorem has_20 : Has P 20 := ⟨_, Go.Proofs.Tryd.func20, by kernel_rfl, by kernel_rfl⟩
theorem has_21 : Has P 21 := ⟨_, Go.Proofs.Tryd.func21, by kernel_rfl, by kernel_rfl⟩
theorem has_22 : Has P 22 := ⟨_, Go.Proofs.Tryd.func22, by kernel_rfl, by kernel_rfl⟩
theorem has_23 : Has P 23 := ⟨_, Go.Proofs.Tryd.func23, by kernel_rfl, by kernel_rfl⟩
theorem has_24 : Has P 24 := ⟨_, Go.Proofs.Tryd.func24, by kernel_rfl, by kernel_rfl⟩
theorem has_25 : Has P 25 := ⟨_, Go.Proofs.Tryd.func25, by kernel_rfl, by kernel_rfl⟩
theorem has_26 : Has P 26 := ⟨_, Go.Proofs.Tryd.func26, by kernel_rfl, by kernel_rfl⟩
theorem has_27 : Has P 27 := ⟨_, Go.Proofs.Tryd.func27, by kernel_rfl, by kernel_rfl⟩
theorem has_28 : Has P 28 := ⟨_, Go.Proofs.Tryd.func28, by kernel_rfl, by kernel_rfl⟩
theorem has_29 : Has P 29 := ⟨_, Go.Proofs.Tryd.func29, by kernel_rfl, by kernel_rfl⟩
theorem has_30 : Has P 30 := ⟨_, Go.Proofs.Tryd.func30, by kernel_rfl, by kernel_rfl⟩
theorem has_31 : Has P 31 := ⟨_, Go.Proofs.Tryd.func31, by kernel_rfl, by kernel_rfl⟩
theorem has_33 : Has P 33 := ⟨_, Go.Proofs.Tryd.func33, by kernel_rfl, by kernel_rfl⟩
theorem has_35 : Has P 35 := ⟨_, Go.Proofs.Tryd.func35, by kernel_rfl, by kernel_rfl⟩
theorem has_36 : Has P 36 := ⟨_, Go.Proofs.Tryd.func36, by kernel_rfl, by kernel_rfl⟩
theorem has_37 : Has P 37 := ⟨_, Go.Proofs.Tryd.func37, by kernel_rfl, by kernel_rfl⟩
theorem has_38 : Has P 38 := ⟨_, Go.Proofs.Tryd.func38, by kernel_rfl, by kernel_rfl⟩
theorem has_39 : Has P 39 := ⟨_, Go.Proofs.Tryd.func39, by kernel_rfl, by kernel_rfl⟩
theorem has_41 : Has P 41 := ⟨_, Go.Proofs.Tryd.func41, by kernel_rfl, by kernel_rfl⟩
theorem has_42 : Has P 42 := ⟨_, Go.Proofs.Tryd.func42, by kernel_rfl, by kernel_rfl⟩
theorem has_43 : Has P 43 := ⟨_, Go.Proofs.Tryd.func43, by kernel_rfl, by kernel_rfl⟩
theorem has_44 : Has P 44 := ⟨_, Go.Proofs.Tryd.func44, by kernel_rfl, by kernel_rfl⟩
theorem has_46 : Has P 46 := ⟨_, Go.Proofs.Tryd.func46, by kernel_rfl, by kernel_rfl⟩
theorem has_69 : Has P 69 := ⟨_, Go.Proofs.Tryd.func69, by kernel_rfl, by kernel_rfl⟩
end Go.Proofs.YtdgbckfnamiebaaDoor.S
