/- The closed facts of this seat's program: its types and functions, as the kernel reckons them. Written by a program of the prover's own (gen.py). -/
import Derived.Test.YtgibhdjhgobdnaaOps4
import Derived.Test.YtgibhdjhgobdnaaProg
namespace Go.Proofs.Ytgibhdjhgobdnaa.S
noncomputable abbrev P : Program := Go.Proofs.Try.prog
theorem mixed : P.follows .mixedOrders = true := by kernel_rfl
theorem one_0 : OneT P 0 true := by unfold OneT; kernel_rfl
theorem sz_0 : SizeIs P 0 1 := by unfold SizeIs; kernel_rfl
theorem ce_0 : P.cellsOf 0 = 1 := by kernel_rfl
theorem by_0 : BytesIs P 0 0 := by unfold BytesIs; kernel_rfl
theorem zr_0 : ZeroIs P 0 (.tuple #[]) := by unfold ZeroIs; kernel_rfl
theorem one_2 : OneT P 2 true := by unfold OneT; kernel_rfl
theorem sz_2 : SizeIs P 2 1 := by unfold SizeIs; kernel_rfl
theorem ce_2 : P.cellsOf 2 = 1 := by kernel_rfl
theorem by_2 : BytesIs P 2 8 := by unfold BytesIs; kernel_rfl
theorem zr_2 : ZeroIs P 2 (.int .i64 0) := by unfold ZeroIs; kernel_rfl
theorem ty_2 : P.underlying 2 = some (.int .i64) := by kernel_rfl
theorem one_3 : OneT P 3 true := by unfold OneT; kernel_rfl
theorem sz_3 : SizeIs P 3 1 := by unfold SizeIs; kernel_rfl
theorem ce_3 : P.cellsOf 3 = 1 := by kernel_rfl
theorem by_3 : BytesIs P 3 8 := by unfold BytesIs; kernel_rfl
theorem zr_3 : ZeroIs P 3 (.int .i64 0) := by unfold ZeroIs; kernel_rfl
theorem ty_3 : P.underlying 3 = some (.int .i64) := by kernel_rfl
theorem one_4 : OneT P 4 true := by unfold OneT; kernel_rfl
theorem sz_4 : SizeIs P 4 1 := by unfold SizeIs; kernel_rfl
theorem ce_4 : P.cellsOf 4 = 1 := by kernel_rfl
theorem by_4 : BytesIs P 4 1 := by unfold BytesIs; kernel_rfl
theorem zr_4 : ZeroIs P 4 (.bool false) := by unfold ZeroIs; kernel_rfl
theorem ty_4 : P.underlying 4 = some .bool := by kernel_rfl
theorem one_5 : OneT P 5 true := by unfold OneT; kernel_rfl
theorem sz_5 : SizeIs P 5 1 := by unfold SizeIs; kernel_rfl
theorem ce_5 : P.cellsOf 5 = 1 := by kernel_rfl
theorem by_5 : BytesIs P 5 1 := by unfold BytesIs; kernel_rfl
theorem zr_5 : ZeroIs P 5 (.int .u8 0) := by unfold ZeroIs; kernel_rfl
theorem ty_5 : P.underlying 5 = some (.int .u8) := by kernel_rfl
theorem one_6 : OneT P 6 true := by unfold OneT; kernel_rfl
theorem sz_6 : SizeIs P 6 1 := by unfold SizeIs; kernel_rfl
theorem ce_6 : P.cellsOf 6 = 1 := by kernel_rfl
theorem by_6 : BytesIs P 6 1 := by unfold BytesIs; kernel_rfl
theorem zr_6 : ZeroIs P 6 (.int .u8 0) := by unfold ZeroIs; kernel_rfl
theorem ty_6 : P.underlying 6 = some (.int .u8) := by kernel_rfl
theorem one_8 : OneT P 8 false := by unfold OneT; kernel_rfl
theorem sz_8 : SizeIs P 8 4 := by unfold SizeIs; kernel_rfl
theorem ce_8 : P.cellsOf 8 = 4 := by kernel_rfl
theorem by_8 : BytesIs P 8 24 := by unfold BytesIs; kernel_rfl
theorem zr_8 : ZeroIs P 8 (.agg #[.int .i64 0, .int .i64 0, .bool false, .int .u8 0]) := by unfold ZeroIs; kernel_rfl
theorem fl_8_0 : FieldIs P 8 0 0 := .of (k := 0) (by kernel_rfl)
theorem fl_8_1 : FieldIs P 8 1 1 := .of (k := 0) (by kernel_rfl)
theorem fl_8_2 : FieldIs P 8 2 2 := .of (k := 0) (by kernel_rfl)
theorem fl_8_3 : FieldIs P 8 3 3 := .of (k := 0) (by kernel_rfl)
theorem pl_8 : PlacesAre P 8 #[(0, 1), (1, 1), (2, 1), (3, 1)] := .of (by kernel_rfl)
theorem one_9 : OneT P 9 true := by unfold OneT; kernel_rfl
theorem sz_9 : SizeIs P 9 1 := by unfold SizeIs; kernel_rfl
theorem ce_9 : P.cellsOf 9 = 1 := by kernel_rfl
theorem by_9 : BytesIs P 9 16 := by unfold BytesIs; kernel_rfl
theorem zr_9 : ZeroIs P 9 (.string ⟨#[]⟩) := by unfold ZeroIs; kernel_rfl
theorem ty_9 : P.underlying 9 = some .string := by kernel_rfl
theorem kd_9 : Kd P 9 := .inr ty_9
theorem one_10 : OneT P 10 true := by unfold OneT; kernel_rfl
theorem sz_10 : SizeIs P 10 1 := by unfold SizeIs; kernel_rfl
theorem ce_10 : P.cellsOf 10 = 1 := by kernel_rfl
theorem by_10 : BytesIs P 10 16 := by unfold BytesIs; kernel_rfl
theorem zr_10 : ZeroIs P 10 (.string ⟨#[]⟩) := by unfold ZeroIs; kernel_rfl
theorem ty_10 : P.underlying 10 = some .string := by kernel_rfl
theorem kd_10 : Kd P 10 := .inr ty_10
theorem one_11 : OneT P 11 true := by unfold OneT; kernel_rfl
theorem sz_11 : SizeIs P 11 1 := by unfold SizeIs; kernel_rfl
theorem ce_11 : P.cellsOf 11 = 1 := by kernel_rfl
theorem by_11 : BytesIs P 11 16 := by unfold BytesIs; kernel_rfl
theorem zr_11 : ZeroIs P 11 (.string ⟨#[]⟩) := by unfold ZeroIs; kernel_rfl
theorem ty_11 : P.underlying 11 = some .string := by kernel_rfl
theorem kd_11 : Kd P 11 := .inr ty_11
theorem one_12 : OneT P 12 true := by unfold OneT; kernel_rfl
theorem sz_12 : SizeIs P 12 1 := by unfold SizeIs; kernel_rfl
theorem ce_12 : P.cellsOf 12 = 1 := by kernel_rfl
theorem by_12 : BytesIs P 12 8 := by unfold BytesIs; kernel_rfl
theorem zr_12 : ZeroIs P 12 (.int .u64 0) := by unfold ZeroIs; kernel_rfl
theorem ty_12 : P.underlying 12 = some (.int .u64) := by kernel_rfl
theorem one_14 : OneT P 14 false := by unfold OneT; kernel_rfl
theorem sz_14 : SizeIs P 14 2 := by unfold SizeIs; kernel_rfl
theorem ce_14 : P.cellsOf 14 = 2 := by kernel_rfl
theorem by_14 : BytesIs P 14 24 := by unfold BytesIs; kernel_rfl
theorem zr_14 : ZeroIs P 14 (.agg #[.string ⟨#[]⟩, .int .u64 0]) := by unfold ZeroIs; kernel_rfl
theorem fl_14_0 : FieldIs P 14 0 0 := .of (k := 0) (by kernel_rfl)
theorem fl_14_1 : FieldIs P 14 1 1 := .of (k := 0) (by kernel_rfl)
theorem pl_14 : PlacesAre P 14 #[(0, 1), (1, 1)] := .of (by kernel_rfl)
theorem one_15 : OneT P 15 true := by unfold OneT; kernel_rfl
theorem sz_15 : SizeIs P 15 1 := by unfold SizeIs; kernel_rfl
theorem ce_15 : P.cellsOf 15 = 1 := by kernel_rfl
theorem by_15 : BytesIs P 15 8 := by unfold BytesIs; kernel_rfl
theorem zr_15 : ZeroIs P 15 (.pointer none) := by unfold ZeroIs; kernel_rfl
theorem ty_15 : P.underlying 15 = some (.pointer 74) := by kernel_rfl
theorem one_16 : OneT P 16 true := by unfold OneT; kernel_rfl
theorem sz_16 : SizeIs P 16 1 := by unfold SizeIs; kernel_rfl
theorem ce_16 : P.cellsOf 16 = 1 := by kernel_rfl
theorem by_16 : BytesIs P 16 8 := by unfold BytesIs; kernel_rfl
theorem zr_16 : ZeroIs P 16 (.pointer none) := by unfold ZeroIs; kernel_rfl
theorem ty_16 : P.underlying 16 = some (.pointer 77) := by kernel_rfl
theorem one_17 : OneT P 17 true := by unfold OneT; kernel_rfl
theorem sz_17 : SizeIs P 17 1 := by unfold SizeIs; kernel_rfl
theorem ce_17 : P.cellsOf 17 = 1 := by kernel_rfl
theorem by_17 : BytesIs P 17 8 := by unfold BytesIs; kernel_rfl
theorem zr_17 : ZeroIs P 17 (.pointer none) := by unfold ZeroIs; kernel_rfl
theorem ty_17 : P.underlying 17 = some (.pointer 86) := by kernel_rfl
theorem one_19 : OneT P 19 false := by unfold OneT; kernel_rfl
theorem sz_19 : SizeIs P 19 1 := by unfold SizeIs; kernel_rfl
theorem ce_19 : P.cellsOf 19 = 1 := by kernel_rfl
theorem by_19 : BytesIs P 19 8 := by unfold BytesIs; kernel_rfl
theorem zr_19 : ZeroIs P 19 (.agg #[.pointer none]) := by unfold ZeroIs; kernel_rfl
theorem fl_19_0 : FieldIs P 19 0 0 := .of (k := 0) (by kernel_rfl)
theorem pl_19 : PlacesAre P 19 #[(0, 1)] := .of (by kernel_rfl)
theorem one_22 : OneT P 22 true := by unfold OneT; kernel_rfl
theorem sz_22 : SizeIs P 22 1 := by unfold SizeIs; kernel_rfl
theorem ce_22 : P.cellsOf 22 = 1 := by kernel_rfl
theorem by_22 : BytesIs P 22 24 := by unfold BytesIs; kernel_rfl
theorem zr_22 : ZeroIs P 22 (.slice none 0 0) := by unfold ZeroIs; kernel_rfl
theorem ty_22 : P.underlying 22 = some (.slice 54) := by kernel_rfl
theorem kd_22 : Kd P 22 := .inl ⟨_, ty_22⟩
theorem one_23 : OneT P 23 true := by unfold OneT; kernel_rfl
theorem sz_23 : SizeIs P 23 1 := by unfold SizeIs; kernel_rfl
theorem ce_23 : P.cellsOf 23 = 1 := by kernel_rfl
theorem by_23 : BytesIs P 23 24 := by unfold BytesIs; kernel_rfl
theorem zr_23 : ZeroIs P 23 (.slice none 0 0) := by unfold ZeroIs; kernel_rfl
theorem ty_23 : P.underlying 23 = some (.slice 55) := by kernel_rfl
theorem kd_23 : Kd P 23 := .inl ⟨_, ty_23⟩
theorem one_24 : OneT P 24 true := by unfold OneT; kernel_rfl
theorem sz_24 : SizeIs P 24 1 := by unfold SizeIs; kernel_rfl
theorem ce_24 : P.cellsOf 24 = 1 := by kernel_rfl
theorem by_24 : BytesIs P 24 24 := by unfold BytesIs; kernel_rfl
theorem zr_24 : ZeroIs P 24 (.slice none 0 0) := by unfold ZeroIs; kernel_rfl
theorem ty_24 : P.underlying 24 = some (.slice 60) := by kernel_rfl
theorem kd_24 : Kd P 24 := .inl ⟨_, ty_24⟩
theorem one_25 : OneT P 25 true := by unfold OneT; kernel_rfl
theorem sz_25 : SizeIs P 25 1 := by unfold SizeIs; kernel_rfl
theorem ce_25 : P.cellsOf 25 = 1 := by kernel_rfl
theorem by_25 : BytesIs P 25 24 := by unfold BytesIs; kernel_rfl
theorem zr_25 : ZeroIs P 25 (.slice none 0 0) := by unfold ZeroIs; kernel_rfl
theorem ty_25 : P.underlying 25 = some (.slice 5) := by kernel_rfl
theorem kd_25 : Kd P 25 := .inl ⟨_, ty_25⟩
theorem one_27 : OneT P 27 false := by unfold OneT; kernel_rfl
theorem sz_27 : SizeIs P 27 5 := by unfold SizeIs; kernel_rfl
theorem ce_27 : P.cellsOf 27 = 5 := by kernel_rfl
theorem by_27 : BytesIs P 27 104 := by unfold BytesIs; kernel_rfl
theorem zr_27 : ZeroIs P 27 (.agg #[.int .i64 0, .slice none 0 0, .slice none 0 0, .slice none 0 0, .slice none 0 0]) := by unfold ZeroIs; kernel_rfl
theorem fl_27_0 : FieldIs P 27 0 0 := .of (k := 0) (by kernel_rfl)
theorem fl_27_1 : FieldIs P 27 1 1 := .of (k := 0) (by kernel_rfl)
theorem fl_27_2 : FieldIs P 27 2 2 := .of (k := 0) (by kernel_rfl)
theorem fl_27_3 : FieldIs P 27 3 3 := .of (k := 0) (by kernel_rfl)
theorem fl_27_4 : FieldIs P 27 4 4 := .of (k := 0) (by kernel_rfl)
theorem pl_27 : PlacesAre P 27 #[(0, 1), (1, 1), (2, 1), (3, 1), (4, 1)] := .of (by kernel_rfl)
theorem one_29 : OneT P 29 true := by unfold OneT; kernel_rfl
theorem sz_29 : SizeIs P 29 1 := by unfold SizeIs; kernel_rfl
theorem ce_29 : P.cellsOf 29 = 1 := by kernel_rfl
theorem by_29 : BytesIs P 29 8 := by unfold BytesIs; kernel_rfl
theorem zr_29 : ZeroIs P 29 (.int .i64 0) := by unfold ZeroIs; kernel_rfl
theorem ty_29 : P.underlying 29 = some (.int .i64) := by kernel_rfl
theorem one_30 : OneT P 30 true := by unfold OneT; kernel_rfl
theorem sz_30 : SizeIs P 30 1 := by unfold SizeIs; kernel_rfl
theorem ce_30 : P.cellsOf 30 = 1 := by kernel_rfl
theorem by_30 : BytesIs P 30 0 := by unfold BytesIs; kernel_rfl
theorem zr_30 : ZeroIs P 30 (.tuple #[.slice none 0 0, .int .i64 0]) := by unfold ZeroIs; kernel_rfl
theorem one_32 : OneT P 32 true := by unfold OneT; kernel_rfl
theorem sz_32 : SizeIs P 32 1 := by unfold SizeIs; kernel_rfl
theorem ce_32 : P.cellsOf 32 = 1 := by kernel_rfl
theorem by_32 : BytesIs P 32 0 := by unfold BytesIs; kernel_rfl
theorem zr_32 : ZeroIs P 32 (.tuple #[.string ⟨#[]⟩, .int .i64 0]) := by unfold ZeroIs; kernel_rfl
theorem one_36 : OneT P 36 false := by unfold OneT; kernel_rfl
theorem sz_36 : SizeIs P 36 4 := by unfold SizeIs; kernel_rfl
theorem ce_36 : P.cellsOf 36 = 4 := by kernel_rfl
theorem by_36 : BytesIs P 36 32 := by unfold BytesIs; kernel_rfl
theorem zr_36 : ZeroIs P 36 (.agg #[.int .i64 0, .int .i64 0, .int .i64 0, .bool false]) := by unfold ZeroIs; kernel_rfl
theorem fl_36_0 : FieldIs P 36 0 0 := .of (k := 0) (by kernel_rfl)
theorem fl_36_1 : FieldIs P 36 1 1 := .of (k := 0) (by kernel_rfl)
theorem fl_36_2 : FieldIs P 36 2 2 := .of (k := 0) (by kernel_rfl)
theorem fl_36_3 : FieldIs P 36 3 3 := .of (k := 0) (by kernel_rfl)
theorem pl_36 : PlacesAre P 36 #[(0, 1), (1, 1), (2, 1), (3, 1)] := .of (by kernel_rfl)
theorem one_37 : OneT P 37 true := by unfold OneT; kernel_rfl
theorem sz_37 : SizeIs P 37 1 := by unfold SizeIs; kernel_rfl
theorem ce_37 : P.cellsOf 37 = 1 := by kernel_rfl
theorem by_37 : BytesIs P 37 0 := by unfold BytesIs; kernel_rfl
theorem zr_37 : ZeroIs P 37 (.tuple #[.agg #[.int .i64 0, .int .i64 0, .int .i64 0, .bool false], .int .i64 0]) := by unfold ZeroIs; kernel_rfl
theorem one_39 : OneT P 39 false := by unfold OneT; kernel_rfl
theorem sz_39 : SizeIs P 39 4 := by unfold SizeIs; kernel_rfl
theorem ce_39 : P.cellsOf 39 = 4 := by kernel_rfl
theorem by_39 : BytesIs P 39 32 := by unfold BytesIs; kernel_rfl
theorem zr_39 : ZeroIs P 39 (.agg #[.int .i64 0, .int .i64 0, .int .i64 0, .int .i64 0]) := by unfold ZeroIs; kernel_rfl
theorem ty_39 : P.underlying 39 = some (.array 4 3) := by kernel_rfl
theorem eg_39 : Program.eqGuardType P P.depth 39 = false := by kernel_rfl
theorem one_40 : OneT P 40 true := by unfold OneT; kernel_rfl
theorem sz_40 : SizeIs P 40 1 := by unfold SizeIs; kernel_rfl
theorem ce_40 : P.cellsOf 40 = 1 := by kernel_rfl
theorem by_40 : BytesIs P 40 0 := by unfold BytesIs; kernel_rfl
theorem zr_40 : ZeroIs P 40 (.tuple #[.agg #[.int .i64 0, .int .i64 0, .int .i64 0, .int .i64 0], .bool false]) := by unfold ZeroIs; kernel_rfl
theorem one_44 : OneT P 44 true := by unfold OneT; kernel_rfl
theorem sz_44 : SizeIs P 44 1 := by unfold SizeIs; kernel_rfl
theorem ce_44 : P.cellsOf 44 = 1 := by kernel_rfl
theorem by_44 : BytesIs P 44 0 := by unfold BytesIs; kernel_rfl
theorem zr_44 : ZeroIs P 44 (.tuple #[.agg #[.int .i64 0, .slice none 0 0, .slice none 0 0, .slice none 0 0, .slice none 0 0], .int .i64 0]) := by unfold ZeroIs; kernel_rfl
theorem one_46 : OneT P 46 true := by unfold OneT; kernel_rfl
theorem sz_46 : SizeIs P 46 1 := by unfold SizeIs; kernel_rfl
theorem ce_46 : P.cellsOf 46 = 1 := by kernel_rfl
theorem by_46 : BytesIs P 46 0 := by unfold BytesIs; kernel_rfl
theorem zr_46 : ZeroIs P 46 (.tuple #[.agg #[.int .i64 0, .slice none 0 0, .slice none 0 0, .slice none 0 0, .slice none 0 0], .int .i64 0]) := by unfold ZeroIs; kernel_rfl
theorem one_54 : OneT P 54 false := by unfold OneT; kernel_rfl
theorem sz_54 : SizeIs P 54 32 := by unfold SizeIs; kernel_rfl
theorem ce_54 : P.cellsOf 54 = 32 := by kernel_rfl
theorem by_54 : BytesIs P 54 32 := by unfold BytesIs; kernel_rfl
theorem zr_54 : ZeroIs P 54 (.agg #[.int .u8 0, .int .u8 0, .int .u8 0, .int .u8 0, .int .u8 0, .int .u8 0, .int .u8 0, .int .u8 0, .int .u8 0, .int .u8 0, .int .u8 0, .int .u8 0, .int .u8 0, .int .u8 0, .int .u8 0, .int .u8 0, .int .u8 0, .int .u8 0, .int .u8 0, .int .u8 0, .int .u8 0, .int .u8 0, .int .u8 0, .int .u8 0, .int .u8 0, .int .u8 0, .int .u8 0, .int .u8 0, .int .u8 0, .int .u8 0, .int .u8 0, .int .u8 0]) := by unfold ZeroIs; kernel_rfl
theorem ty_54 : P.underlying 54 = some (.array 32 5) := by kernel_rfl
theorem eg_54 : Program.eqGuardType P P.depth 54 = false := by kernel_rfl
theorem one_55 : OneT P 55 true := by unfold OneT; kernel_rfl
theorem sz_55 : SizeIs P 55 1 := by unfold SizeIs; kernel_rfl
theorem ce_55 : P.cellsOf 55 = 1 := by kernel_rfl
theorem by_55 : BytesIs P 55 4 := by unfold BytesIs; kernel_rfl
theorem zr_55 : ZeroIs P 55 (.int .u32 0) := by unfold ZeroIs; kernel_rfl
theorem ty_55 : P.underlying 55 = some (.int .u32) := by kernel_rfl
theorem one_57 : OneT P 57 false := by unfold OneT; kernel_rfl
theorem sz_57 : SizeIs P 57 1 := by unfold SizeIs; kernel_rfl
theorem ce_57 : P.cellsOf 57 = 1 := by kernel_rfl
theorem by_57 : BytesIs P 57 24 := by unfold BytesIs; kernel_rfl
theorem zr_57 : ZeroIs P 57 (.agg #[.slice none 0 0]) := by unfold ZeroIs; kernel_rfl
theorem fl_57_0 : FieldIs P 57 0 0 := .of (k := 0) (by kernel_rfl)
theorem pl_57 : PlacesAre P 57 #[(0, 1)] := .of (by kernel_rfl)
theorem one_60 : OneT P 60 false := by unfold OneT; kernel_rfl
theorem sz_60 : SizeIs P 60 64 := by unfold SizeIs; kernel_rfl
theorem ce_60 : P.cellsOf 60 = 64 := by kernel_rfl
theorem by_60 : BytesIs P 60 64 := by unfold BytesIs; kernel_rfl
theorem zr_60 : ZeroIs P 60 (.agg #[.int .u8 0, .int .u8 0, .int .u8 0, .int .u8 0, .int .u8 0, .int .u8 0, .int .u8 0, .int .u8 0, .int .u8 0, .int .u8 0, .int .u8 0, .int .u8 0, .int .u8 0, .int .u8 0, .int .u8 0, .int .u8 0, .int .u8 0, .int .u8 0, .int .u8 0, .int .u8 0, .int .u8 0, .int .u8 0, .int .u8 0, .int .u8 0, .int .u8 0, .int .u8 0, .int .u8 0, .int .u8 0, .int .u8 0, .int .u8 0, .int .u8 0, .int .u8 0, .int .u8 0, .int .u8 0, .int .u8 0, .int .u8 0, .int .u8 0, .int .u8 0, .int .u8 0, .int .u8 0, .int .u8 0, .int .u8 0, .int .u8 0, .int .u8 0, .int .u8 0, .int .u8 0, .int .u8 0, .int .u8 0, .int .u8 0, .int .u8 0, .int .u8 0, .int .u8 0, .int .u8 0, .int .u8 0, .int .u8 0, .int .u8 0, .int .u8 0, .int .u8 0, .int .u8 0, .int .u8 0, .int .u8 0, .int .u8 0, .int .u8 0, .int .u8 0]) := by unfold ZeroIs; kernel_rfl
theorem ty_60 : P.underlying 60 = some (.array 64 5) := by kernel_rfl
theorem eg_60 : Program.eqGuardType P P.depth 60 = false := by kernel_rfl
theorem one_62 : OneT P 62 false := by unfold OneT; kernel_rfl
theorem sz_62 : SizeIs P 62 32 := by unfold SizeIs; kernel_rfl
theorem ce_62 : P.cellsOf 62 = 32 := by kernel_rfl
theorem by_62 : BytesIs P 62 256 := by unfold BytesIs; kernel_rfl
theorem zr_62 : ZeroIs P 62 (.agg #[.int .i64 0, .int .i64 0, .int .i64 0, .int .i64 0, .int .i64 0, .int .i64 0, .int .i64 0, .int .i64 0, .int .i64 0, .int .i64 0, .int .i64 0, .int .i64 0, .int .i64 0, .int .i64 0, .int .i64 0, .int .i64 0, .int .i64 0, .int .i64 0, .int .i64 0, .int .i64 0, .int .i64 0, .int .i64 0, .int .i64 0, .int .i64 0, .int .i64 0, .int .i64 0, .int .i64 0, .int .i64 0, .int .i64 0, .int .i64 0, .int .i64 0, .int .i64 0]) := by unfold ZeroIs; kernel_rfl
theorem ty_62 : P.underlying 62 = some (.array 8 39) := by kernel_rfl
theorem eg_62 : Program.eqGuardType P P.depth 62 = false := by kernel_rfl
theorem one_63 : OneT P 63 true := by unfold OneT; kernel_rfl
theorem sz_63 : SizeIs P 63 1 := by unfold SizeIs; kernel_rfl
theorem ce_63 : P.cellsOf 63 = 1 := by kernel_rfl
theorem by_63 : BytesIs P 63 8 := by unfold BytesIs; kernel_rfl
theorem zr_63 : ZeroIs P 63 (.pointer none) := by unfold ZeroIs; kernel_rfl
theorem ty_63 : P.underlying 63 = some (.pointer 65) := by kernel_rfl
theorem one_65 : OneT P 65 false := by unfold OneT; kernel_rfl
theorem sz_65 : SizeIs P 65 2 := by unfold SizeIs; kernel_rfl
theorem ce_65 : P.cellsOf 65 = 2 := by kernel_rfl
theorem by_65 : BytesIs P 65 32 := by unfold BytesIs; kernel_rfl
theorem zr_65 : ZeroIs P 65 (.agg #[.slice none 0 0, .int .i64 0]) := by unfold ZeroIs; kernel_rfl
theorem fl_65_0 : FieldIs P 65 0 0 := .of (k := 0) (by kernel_rfl)
theorem fl_65_1 : FieldIs P 65 1 1 := .of (k := 0) (by kernel_rfl)
theorem pl_65 : PlacesAre P 65 #[(0, 1), (1, 1)] := .of (by kernel_rfl)
theorem one_70 : OneT P 70 true := by unfold OneT; kernel_rfl
theorem sz_70 : SizeIs P 70 1 := by unfold SizeIs; kernel_rfl
theorem ce_70 : P.cellsOf 70 = 1 := by kernel_rfl
theorem by_70 : BytesIs P 70 8 := by unfold BytesIs; kernel_rfl
theorem zr_70 : ZeroIs P 70 (.pointer none) := by unfold ZeroIs; kernel_rfl
theorem ty_70 : P.underlying 70 = some (.pointer 57) := by kernel_rfl
theorem one_80 : OneT P 80 true := by unfold OneT; kernel_rfl
theorem sz_80 : SizeIs P 80 1 := by unfold SizeIs; kernel_rfl
theorem ce_80 : P.cellsOf 80 = 1 := by kernel_rfl
theorem by_80 : BytesIs P 80 1 := by unfold BytesIs; kernel_rfl
theorem zr_80 : ZeroIs P 80 (.int .u8 0) := by unfold ZeroIs; kernel_rfl
theorem ty_80 : P.underlying 80 = some (.int .u8) := by kernel_rfl
theorem has_2 : Has P 2 := ⟨_, Go.Proofs.Try.func2, by kernel_rfl, by kernel_rfl⟩
theorem has_3 : Has P 3 := ⟨_, Go.Proofs.Try.func3, by kernel_rfl, by kernel_rfl⟩
theorem has_4 : Has P 4 := ⟨_, Go.Proofs.Try.func4, by kernel_rfl, by kernel_rfl⟩
theorem has_5 : Has P 5 := ⟨_, Go.Proofs.Try.func5, by kernel_rfl, by kernel_rfl⟩
theorem has_6 : Has P 6 := ⟨_, Go.Proofs.Try.func6, by kernel_rfl, by kernel_rfl⟩
theorem has_7 : Has P 7 := ⟨_, Go.Proofs.Try.func7, by kernel_rfl, by kernel_rfl⟩
theorem has_8 : Has P 8 := ⟨_, Go.Proofs.Try.func8, by kernel_rfl, by kernel_rfl⟩
theorem has_9 : Has P 9 := ⟨_, Go.Proofs.Try.func9, by kernel_rfl, by kernel_rfl⟩
theorem has_10 : Has P 10 := ⟨_, Go.Proofs.Try.func10, by kernel_rfl, by kernel_rfl⟩
theorem has_11 : Has P 11 := ⟨_, Go.Proofs.Try.func11, by kernel_rfl, by kernel_rfl⟩
theorem has_12 : Has P 12 := ⟨_, Go.Proofs.Try.func12, by kernel_rfl, by kernel_rfl⟩
theorem has_13 : Has P 13 := ⟨_, Go.Proofs.Try.func13, by kernel_rfl, by kernel_rfl⟩
theorem has_14 : Has P 14 := ⟨_, Go.Proofs.Try.func14, by kernel_rfl, by kernel_rfl⟩
theorem has_15 : Has P 15 := ⟨_, Go.Proofs.Try.func15, by kernel_rfl, by kernel_rfl⟩
theorem has_16 : Has P 16 := ⟨_, Go.Proofs.Try.func16, by kernel_rfl, by kernel_rfl⟩
theorem has_17 : Has P 17 := ⟨_, Go.Proofs.Try.func17, by kernel_rfl, by kernel_rfl⟩
theorem has_18 : Has P 18 := ⟨_, Go.Proofs.Try.func18, by kernel_rfl, by kernel_rfl⟩
theorem has_19 : Has P 19 := ⟨_, Go.Proofs.Try.func19, by kernel_rfl, by kernel_rfl⟩
theorem has_20 : Has P 20 := ⟨_, Go.Proofs.Try.func20, by kernel_rfl, by kernel_rfl⟩
theorem has_21 : Has P 21 := ⟨_, Go.Proofs.Try.func21, by kernel_rfl, by kernel_rfl⟩
theorem has_22 : Has P 22 := ⟨_, Go.Proofs.Try.func22, by kernel_rfl, by kernel_rfl⟩
theorem has_23 : Has P 23 := ⟨_, Go.Proofs.Try.func23, by kernel_rfl, by kernel_rfl⟩
end Go.Proofs.Ytgibhdjhgobdnaa.S
