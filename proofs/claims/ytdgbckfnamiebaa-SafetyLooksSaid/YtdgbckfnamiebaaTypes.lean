/- The closed facts of this seat's program: its types and functions, as the kernel reckons them. Written by a program of the prover's own (gen.py). -/
import Derived.Test.YtdgbckfnamiebaaOps8
import Derived.Test.YtdgbckfnamiebaaProg
namespace Go.Proofs.Ytdgbckfnamiebaa.S
noncomputable abbrev P : Program := Go.Proofs.Try.prog
theorem mixed : P.follows .mixedOrders = true := by kernel_rfl
theorem one_0 : OneT P 0 true := by unfold OneT; kernel_rfl
theorem sz_0 : SizeIs P 0 1 := by unfold SizeIs; kernel_rfl
theorem ce_0 : P.cellsOf 0 = 1 := by kernel_rfl
theorem by_0 : BytesIs P 0 0 := by unfold BytesIs; kernel_rfl
theorem zr_0 : ZeroIs P 0 (.tuple #[]) := by unfold ZeroIs; kernel_rfl
theorem one_2 : OneT P 2 true := by unfold OneT; kernel_rfl
theorem sz_2 : SizeIs P 2 1 := by unfold SizeIs; kernel_rfl
theorem ce_2 : P.cellsOf 2 = 1 := by kernel_rfl
theorem by_2 : BytesIs P 2 8 := by unfold BytesIs; kernel_rfl
theorem zr_2 : ZeroIs P 2 (.int .i64 0) := by unfold ZeroIs; kernel_rfl
theorem ty_2 : P.underlying 2 = some (.int .i64) := by kernel_rfl
theorem one_3 : OneT P 3 true := by unfold OneT; kernel_rfl
theorem sz_3 : SizeIs P 3 1 := by unfold SizeIs; kernel_rfl
theorem ce_3 : P.cellsOf 3 = 1 := by kernel_rfl
theorem by_3 : BytesIs P 3 8 := by unfold BytesIs; kernel_rfl
theorem zr_3 : ZeroIs P 3 (.int .i64 0) := by unfold ZeroIs; kernel_rfl
theorem ty_3 : P.underlying 3 = some (.int .i64) := by kernel_rfl
theorem one_4 : OneT P 4 true := by unfold OneT; kernel_rfl
theorem sz_4 : SizeIs P 4 1 := by unfold SizeIs; kernel_rfl
theorem ce_4 : P.cellsOf 4 = 1 := by kernel_rfl
theorem by_4 : BytesIs P 4 1 := by unfold BytesIs; kernel_rfl
theorem zr_4 : ZeroIs P 4 (.bool false) := by unfold ZeroIs; kernel_rfl
theorem ty_4 : P.underlying 4 = some .bool := by kernel_rfl
theorem one_5 : OneT P 5 true := by unfold OneT; kernel_rfl
theorem sz_5 : SizeIs P 5 1 := by unfold SizeIs; kernel_rfl
theorem ce_5 : P.cellsOf 5 = 1 := by kernel_rfl
theorem by_5 : BytesIs P 5 1 := by unfold BytesIs; kernel_rfl
theorem zr_5 : ZeroIs P 5 (.int .u8 0) := by unfold ZeroIs; kernel_rfl
theorem ty_5 : P.underlying 5 = some (.int .u8) := by kernel_rfl
theorem one_6 : OneT P 6 true := by unfold OneT; kernel_rfl
theorem sz_6 : SizeIs P 6 1 := by unfold SizeIs; kernel_rfl
theorem ce_6 : P.cellsOf 6 = 1 := by kernel_rfl
theorem by_6 : BytesIs P 6 1 := by unfold BytesIs; kernel_rfl
theorem zr_6 : ZeroIs P 6 (.int .u8 0) := by unfold ZeroIs; kernel_rfl
theorem ty_6 : P.underlying 6 = some (.int .u8) := by kernel_rfl
theorem one_8 : OneT P 8 false := by unfold OneT; kernel_rfl
theorem sz_8 : SizeIs P 8 4 := by unfold SizeIs; kernel_rfl
theorem ce_8 : P.cellsOf 8 = 4 := by kernel_rfl
theorem by_8 : BytesIs P 8 24 := by unfold BytesIs; kernel_rfl
theorem zr_8 : ZeroIs P 8 (.agg #[.int .i64 0, .int .i64 0, .bool false, .int .u8 0]) := by unfold ZeroIs; kernel_rfl
theorem fl_8_0 : FieldIs P 8 0 0 := .of (k := 0) (by kernel_rfl)
theorem fl_8_1 : FieldIs P 8 1 1 := .of (k := 0) (by kernel_rfl)
theorem fl_8_2 : FieldIs P 8 2 2 := .of (k := 0) (by kernel_rfl)
theorem fl_8_3 : FieldIs P 8 3 3 := .of (k := 0) (by kernel_rfl)
theorem pl_8 : PlacesAre P 8 #[(0, 1), (1, 1), (2, 1), (3, 1)] := .of (by kernel_rfl)
theorem one_9 : OneT P 9 true := by unfold OneT; kernel_rfl
theorem sz_9 : SizeIs P 9 1 := by unfold SizeIs; kernel_rfl
theorem ce_9 : P.cellsOf 9 = 1 := by kernel_rfl
theorem by_9 : BytesIs P 9 16 := by unfold BytesIs; kernel_rfl
theorem zr_9 : ZeroIs P 9 (.string ⟨#[]⟩) := by unfold ZeroIs; kernel_rfl
theorem ty_9 : P.underlying 9 = some .string := by kernel_rfl
theorem kd_9 : Kd P 9 := .inr ty_9
theorem one_10 : OneT P 10 true := by unfold OneT; kernel_rfl
theorem sz_10 : SizeIs P 10 1 := by unfold SizeIs; kernel_rfl
theorem ce_10 : P.cellsOf 10 = 1 := by kernel_rfl
theorem by_10 : BytesIs P 10 16 := by unfold BytesIs; kernel_rfl
theorem zr_10 : ZeroIs P 10 (.string ⟨#[]⟩) := by unfold ZeroIs; kernel_rfl
theorem ty_10 : P.underlying 10 = some .string := by kernel_rfl
theorem kd_10 : Kd P 10 := .inr ty_10
theorem one_11 : OneT P 11 true := by unfold OneT; kernel_rfl
theorem sz_11 : SizeIs P 11 1 := by unfold SizeIs; kernel_rfl
theorem ce_11 : P.cellsOf 11 = 1 := by kernel_rfl
theorem by_11 : BytesIs P 11 16 := by unfold BytesIs; kernel_rfl
theorem zr_11 : ZeroIs P 11 (.string ⟨#[]⟩) := by unfold ZeroIs; kernel_rfl
theorem ty_11 : P.underlying 11 = some .string := by kernel_rfl
theorem kd_11 : Kd P 11 := .inr ty_11
theorem one_12 : OneT P 12 true := by unfold OneT; kernel_rfl
theorem sz_12 : SizeIs P 12 1 := by unfold SizeIs; kernel_rfl
theorem ce_12 : P.cellsOf 12 = 1 := by kernel_rfl
theorem by_12 : BytesIs P 12 8 := by unfold BytesIs; kernel_rfl
theorem zr_12 : ZeroIs P 12 (.int .u64 0) := by unfold ZeroIs; kernel_rfl
theorem ty_12 : P.underlying 12 = some (.int .u64) := by kernel_rfl
theorem one_14 : OneT P 14 false := by unfold OneT; kernel_rfl
theorem sz_14 : SizeIs P 14 2 := by unfold SizeIs; kernel_rfl
theorem ce_14 : P.cellsOf 14 = 2 := by kernel_rfl
theorem by_14 : BytesIs P 14 24 := by unfold BytesIs; kernel_rfl
theorem zr_14 : ZeroIs P 14 (.agg #[.string ⟨#[]⟩, .int .u64 0]) := by unfold ZeroIs; kernel_rfl
theorem fl_14_0 : FieldIs P 14 0 0 := .of (k := 0) (by kernel_rfl)
theorem fl_14_1 : FieldIs P 14 1 1 := .of (k := 0) (by kernel_rfl)
theorem pl_14 : PlacesAre P 14 #[(0, 1), (1, 1)] := .of (by kernel_rfl)
theorem one_15 : OneT P 15 true := by unfold OneT; kernel_rfl
theorem sz_15 : SizeIs P 15 1 := by unfold SizeIs; kernel_rfl
theorem ce_15 : P.cellsOf 15 = 1 := by kernel_rfl
theorem by_15 : BytesIs P 15 8 := by unfold BytesIs; kernel_rfl
theorem zr_15 : ZeroIs P 15 (.pointer none) := by unfold ZeroIs; kernel_rfl
theorem ty_15 : P.underlying 15 = some (.pointer 115) := by kernel_rfl
theorem one_16 : OneT P 16 true := by unfold OneT; kernel_rfl
theorem sz_16 : SizeIs P 16 1 := by unfold SizeIs; kernel_rfl
theorem ce_16 : P.cellsOf 16 = 1 := by kernel_rfl
theorem by_16 : BytesIs P 16 8 := by unfold BytesIs; kernel_rfl
theorem zr_16 : ZeroIs P 16 (.pointer none) := by unfold ZeroIs; kernel_rfl
theorem ty_16 : P.underlying 16 = some (.pointer 118) := by kernel_rfl
theorem one_17 : OneT P 17 true := by unfold OneT; kernel_rfl
theorem sz_17 : SizeIs P 17 1 := by unfold SizeIs; kernel_rfl
theorem ce_17 : P.cellsOf 17 = 1 := by kernel_rfl
theorem by_17 : BytesIs P 17 8 := by unfold BytesIs; kernel_rfl
theorem zr_17 : ZeroIs P 17 (.pointer none) := by unfold ZeroIs; kernel_rfl
theorem ty_17 : P.underlying 17 = some (.pointer 126) := by kernel_rfl
theorem one_19 : OneT P 19 false := by unfold OneT; kernel_rfl
theorem sz_19 : SizeIs P 19 1 := by unfold SizeIs; kernel_rfl
theorem ce_19 : P.cellsOf 19 = 1 := by kernel_rfl
theorem by_19 : BytesIs P 19 8 := by unfold BytesIs; kernel_rfl
theorem zr_19 : ZeroIs P 19 (.agg #[.pointer none]) := by unfold ZeroIs; kernel_rfl
theorem fl_19_0 : FieldIs P 19 0 0 := .of (k := 0) (by kernel_rfl)
theorem pl_19 : PlacesAre P 19 #[(0, 1)] := .of (by kernel_rfl)
theorem one_20 : OneT P 20 true := by unfold OneT; kernel_rfl
theorem sz_20 : SizeIs P 20 1 := by unfold SizeIs; kernel_rfl
theorem ce_20 : P.cellsOf 20 = 1 := by kernel_rfl
theorem by_20 : BytesIs P 20 16 := by unfold BytesIs; kernel_rfl
theorem zr_20 : ZeroIs P 20 (.nilIface) := by unfold ZeroIs; kernel_rfl
theorem one_24 : OneT P 24 true := by unfold OneT; kernel_rfl
theorem sz_24 : SizeIs P 24 1 := by unfold SizeIs; kernel_rfl
theorem ce_24 : P.cellsOf 24 = 1 := by kernel_rfl
theorem by_24 : BytesIs P 24 24 := by unfold BytesIs; kernel_rfl
theorem zr_24 : ZeroIs P 24 (.slice none 0 0) := by unfold ZeroIs; kernel_rfl
theorem ty_24 : P.underlying 24 = some (.slice 36) := by kernel_rfl
theorem kd_24 : Kd P 24 := .inl ⟨_, ty_24⟩
theorem one_25 : OneT P 25 true := by unfold OneT; kernel_rfl
theorem sz_25 : SizeIs P 25 1 := by unfold SizeIs; kernel_rfl
theorem ce_25 : P.cellsOf 25 = 1 := by kernel_rfl
theorem by_25 : BytesIs P 25 4 := by unfold BytesIs; kernel_rfl
theorem zr_25 : ZeroIs P 25 (.int .u32 0) := by unfold ZeroIs; kernel_rfl
theorem ty_25 : P.underlying 25 = some (.int .u32) := by kernel_rfl
theorem one_26 : OneT P 26 false := by unfold OneT; kernel_rfl
theorem sz_26 : SizeIs P 26 6 := by unfold SizeIs; kernel_rfl
theorem ce_26 : P.cellsOf 26 = 6 := by kernel_rfl
theorem by_26 : BytesIs P 26 24 := by unfold BytesIs; kernel_rfl
theorem zr_26 : ZeroIs P 26 (.agg #[.int .u32 0, .int .u32 0, .int .u32 0, .int .u32 0, .int .u32 0, .int .u32 0]) := by unfold ZeroIs; kernel_rfl
theorem ty_26 : P.underlying 26 = some (.array 6 25) := by kernel_rfl
theorem eg_26 : Program.eqGuardType P P.depth 26 = false := by kernel_rfl
theorem one_27 : OneT P 27 false := by unfold OneT; kernel_rfl
theorem sz_27 : SizeIs P 27 6 := by unfold SizeIs; kernel_rfl
theorem ce_27 : P.cellsOf 27 = 6 := by kernel_rfl
theorem by_27 : BytesIs P 27 24 := by unfold BytesIs; kernel_rfl
theorem zr_27 : ZeroIs P 27 (.agg #[.int .u32 0, .int .u32 0, .int .u32 0, .int .u32 0, .int .u32 0, .int .u32 0]) := by unfold ZeroIs; kernel_rfl
theorem ty_27 : P.underlying 27 = some (.array 6 25) := by kernel_rfl
theorem eg_27 : Program.eqGuardType P P.depth 27 = false := by kernel_rfl
theorem one_34 : OneT P 34 false := by unfold OneT; kernel_rfl
theorem sz_34 : SizeIs P 34 2 := by unfold SizeIs; kernel_rfl
theorem ce_34 : P.cellsOf 34 = 2 := by kernel_rfl
theorem by_34 : BytesIs P 34 32 := by unfold BytesIs; kernel_rfl
theorem zr_34 : ZeroIs P 34 (.agg #[.string ⟨#[]⟩, .string ⟨#[]⟩]) := by unfold ZeroIs; kernel_rfl
theorem ty_34 : P.underlying 34 = some (.array 2 9) := by kernel_rfl
theorem eg_34 : Program.eqGuardType P P.depth 34 = false := by kernel_rfl
theorem one_36 : OneT P 36 false := by unfold OneT; kernel_rfl
theorem sz_36 : SizeIs P 36 32 := by unfold SizeIs; kernel_rfl
theorem ce_36 : P.cellsOf 36 = 32 := by kernel_rfl
theorem by_36 : BytesIs P 36 32 := by unfold BytesIs; kernel_rfl
theorem zr_36 : ZeroIs P 36 (.agg #[.int .u8 0, .int .u8 0, .int .u8 0, .int .u8 0, .int .u8 0, .int .u8 0, .int .u8 0, .int .u8 0, .int .u8 0, .int .u8 0, .int .u8 0, .int .u8 0, .int .u8 0, .int .u8 0, .int .u8 0, .int .u8 0, .int .u8 0, .int .u8 0, .int .u8 0, .int .u8 0, .int .u8 0, .int .u8 0, .int .u8 0, .int .u8 0, .int .u8 0, .int .u8 0, .int .u8 0, .int .u8 0, .int .u8 0, .int .u8 0, .int .u8 0, .int .u8 0]) := by unfold ZeroIs; kernel_rfl
theorem ty_36 : P.underlying 36 = some (.array 32 5) := by kernel_rfl
theorem eg_36 : Program.eqGuardType P P.depth 36 = false := by kernel_rfl
theorem one_37 : OneT P 37 false := by unfold OneT; kernel_rfl
theorem sz_37 : SizeIs P 37 64 := by unfold SizeIs; kernel_rfl
theorem ce_37 : P.cellsOf 37 = 64 := by kernel_rfl
theorem by_37 : BytesIs P 37 64 := by unfold BytesIs; kernel_rfl
theorem zr_37 : ZeroIs P 37 (.agg #[.int .u8 0, .int .u8 0, .int .u8 0, .int .u8 0, .int .u8 0, .int .u8 0, .int .u8 0, .int .u8 0, .int .u8 0, .int .u8 0, .int .u8 0, .int .u8 0, .int .u8 0, .int .u8 0, .int .u8 0, .int .u8 0, .int .u8 0, .int .u8 0, .int .u8 0, .int .u8 0, .int .u8 0, .int .u8 0, .int .u8 0, .int .u8 0, .int .u8 0, .int .u8 0, .int .u8 0, .int .u8 0, .int .u8 0, .int .u8 0, .int .u8 0, .int .u8 0, .int .u8 0, .int .u8 0, .int .u8 0, .int .u8 0, .int .u8 0, .int .u8 0, .int .u8 0, .int .u8 0, .int .u8 0, .int .u8 0, .int .u8 0, .int .u8 0, .int .u8 0, .int .u8 0, .int .u8 0, .int .u8 0, .int .u8 0, .int .u8 0, .int .u8 0, .int .u8 0, .int .u8 0, .int .u8 0, .int .u8 0, .int .u8 0, .int .u8 0, .int .u8 0, .int .u8 0, .int .u8 0, .int .u8 0, .int .u8 0, .int .u8 0, .int .u8 0]) := by unfold ZeroIs; kernel_rfl
theorem ty_37 : P.underlying 37 = some (.array 2 36) := by kernel_rfl
theorem eg_37 : Program.eqGuardType P P.depth 37 = false := by kernel_rfl
theorem one_42 : OneT P 42 true := by unfold OneT; kernel_rfl
theorem sz_42 : SizeIs P 42 1 := by unfold SizeIs; kernel_rfl
theorem ce_42 : P.cellsOf 42 = 1 := by kernel_rfl
theorem by_42 : BytesIs P 42 24 := by unfold BytesIs; kernel_rfl
theorem zr_42 : ZeroIs P 42 (.slice none 0 0) := by unfold ZeroIs; kernel_rfl
theorem ty_42 : P.underlying 42 = some (.slice 5) := by kernel_rfl
theorem kd_42 : Kd P 42 := .inl ⟨_, ty_42⟩
theorem one_43 : OneT P 43 true := by unfold OneT; kernel_rfl
theorem sz_43 : SizeIs P 43 1 := by unfold SizeIs; kernel_rfl
theorem ce_43 : P.cellsOf 43 = 1 := by kernel_rfl
theorem by_43 : BytesIs P 43 24 := by unfold BytesIs; kernel_rfl
theorem zr_43 : ZeroIs P 43 (.slice none 0 0) := by unfold ZeroIs; kernel_rfl
theorem ty_43 : P.underlying 43 = some (.slice 42) := by kernel_rfl
theorem kd_43 : Kd P 43 := .inl ⟨_, ty_43⟩
theorem one_45 : OneT P 45 false := by unfold OneT; kernel_rfl
theorem sz_45 : SizeIs P 45 64 := by unfold SizeIs; kernel_rfl
theorem ce_45 : P.cellsOf 45 = 64 := by kernel_rfl
theorem by_45 : BytesIs P 45 64 := by unfold BytesIs; kernel_rfl
theorem zr_45 : ZeroIs P 45 (.agg #[.int .u8 0, .int .u8 0, .int .u8 0, .int .u8 0, .int .u8 0, .int .u8 0, .int .u8 0, .int .u8 0, .int .u8 0, .int .u8 0, .int .u8 0, .int .u8 0, .int .u8 0, .int .u8 0, .int .u8 0, .int .u8 0, .int .u8 0, .int .u8 0, .int .u8 0, .int .u8 0, .int .u8 0, .int .u8 0, .int .u8 0, .int .u8 0, .int .u8 0, .int .u8 0, .int .u8 0, .int .u8 0, .int .u8 0, .int .u8 0, .int .u8 0, .int .u8 0, .int .u8 0, .int .u8 0, .int .u8 0, .int .u8 0, .int .u8 0, .int .u8 0, .int .u8 0, .int .u8 0, .int .u8 0, .int .u8 0, .int .u8 0, .int .u8 0, .int .u8 0, .int .u8 0, .int .u8 0, .int .u8 0, .int .u8 0, .int .u8 0, .int .u8 0, .int .u8 0, .int .u8 0, .int .u8 0, .int .u8 0, .int .u8 0, .int .u8 0, .int .u8 0, .int .u8 0, .int .u8 0, .int .u8 0, .int .u8 0, .int .u8 0, .int .u8 0]) := by unfold ZeroIs; kernel_rfl
theorem ty_45 : P.underlying 45 = some (.array 64 5) := by kernel_rfl
theorem eg_45 : Program.eqGuardType P P.depth 45 = false := by kernel_rfl
theorem one_47 : OneT P 47 true := by unfold OneT; kernel_rfl
theorem sz_47 : SizeIs P 47 1 := by unfold SizeIs; kernel_rfl
theorem ce_47 : P.cellsOf 47 = 1 := by kernel_rfl
theorem by_47 : BytesIs P 47 8 := by unfold BytesIs; kernel_rfl
theorem zr_47 : ZeroIs P 47 (.int .u64 0) := by unfold ZeroIs; kernel_rfl
theorem ty_47 : P.underlying 47 = some (.int .u64) := by kernel_rfl
theorem one_48 : OneT P 48 true := by unfold OneT; kernel_rfl
theorem sz_48 : SizeIs P 48 1 := by unfold SizeIs; kernel_rfl
theorem ce_48 : P.cellsOf 48 = 1 := by kernel_rfl
theorem by_48 : BytesIs P 48 8 := by unfold BytesIs; kernel_rfl
theorem zr_48 : ZeroIs P 48 (.int .u64 0) := by unfold ZeroIs; kernel_rfl
theorem ty_48 : P.underlying 48 = some (.int .u64) := by kernel_rfl
theorem one_50 : OneT P 50 true := by unfold OneT; kernel_rfl
theorem sz_50 : SizeIs P 50 1 := by unfold SizeIs; kernel_rfl
theorem ce_50 : P.cellsOf 50 = 1 := by kernel_rfl
theorem by_50 : BytesIs P 50 24 := by unfold BytesIs; kernel_rfl
theorem zr_50 : ZeroIs P 50 (.slice none 0 0) := by unfold ZeroIs; kernel_rfl
theorem ty_50 : P.underlying 50 = some (.slice 9) := by kernel_rfl
theorem kd_50 : Kd P 50 := .inl ⟨_, ty_50⟩
theorem one_54 : OneT P 54 true := by unfold OneT; kernel_rfl
theorem sz_54 : SizeIs P 54 1 := by unfold SizeIs; kernel_rfl
theorem ce_54 : P.cellsOf 54 = 1 := by kernel_rfl
theorem by_54 : BytesIs P 54 8 := by unfold BytesIs; kernel_rfl
theorem zr_54 : ZeroIs P 54 (.pointer none) := by unfold ZeroIs; kernel_rfl
theorem ty_54 : P.underlying 54 = some (.pointer 56) := by kernel_rfl
theorem one_56 : OneT P 56 false := by unfold OneT; kernel_rfl
theorem sz_56 : SizeIs P 56 2 := by unfold SizeIs; kernel_rfl
theorem ce_56 : P.cellsOf 56 = 2 := by kernel_rfl
theorem by_56 : BytesIs P 56 32 := by unfold BytesIs; kernel_rfl
theorem zr_56 : ZeroIs P 56 (.agg #[.pointer none, .slice none 0 0]) := by unfold ZeroIs; kernel_rfl
theorem fl_56_0 : FieldIs P 56 0 0 := .of (k := 0) (by kernel_rfl)
theorem fl_56_1 : FieldIs P 56 1 1 := .of (k := 0) (by kernel_rfl)
theorem pl_56 : PlacesAre P 56 #[(0, 1), (1, 1)] := .of (by kernel_rfl)
theorem one_58 : OneT P 58 true := by unfold OneT; kernel_rfl
theorem sz_58 : SizeIs P 58 1 := by unfold SizeIs; kernel_rfl
theorem ce_58 : P.cellsOf 58 = 1 := by kernel_rfl
theorem by_58 : BytesIs P 58 16 := by unfold BytesIs; kernel_rfl
theorem zr_58 : ZeroIs P 58 (.nilIface) := by unfold ZeroIs; kernel_rfl
theorem one_60 : OneT P 60 true := by unfold OneT; kernel_rfl
theorem sz_60 : SizeIs P 60 1 := by unfold SizeIs; kernel_rfl
theorem ce_60 : P.cellsOf 60 = 1 := by kernel_rfl
theorem by_60 : BytesIs P 60 8 := by unfold BytesIs; kernel_rfl
theorem zr_60 : ZeroIs P 60 (.pointer none) := by unfold ZeroIs; kernel_rfl
theorem ty_60 : P.underlying 60 = some (.pointer 79) := by kernel_rfl
theorem one_64 : OneT P 64 true := by unfold OneT; kernel_rfl
theorem sz_64 : SizeIs P 64 1 := by unfold SizeIs; kernel_rfl
theorem ce_64 : P.cellsOf 64 = 1 := by kernel_rfl
theorem by_64 : BytesIs P 64 24 := by unfold BytesIs; kernel_rfl
theorem zr_64 : ZeroIs P 64 (.slice none 0 0) := by unfold ZeroIs; kernel_rfl
theorem ty_64 : P.underlying 64 = some (.slice 47) := by kernel_rfl
theorem kd_64 : Kd P 64 := .inl ⟨_, ty_64⟩
theorem one_65 : OneT P 65 false := by unfold OneT; kernel_rfl
theorem sz_65 : SizeIs P 65 12 := by unfold SizeIs; kernel_rfl
theorem ce_65 : P.cellsOf 65 = 12 := by kernel_rfl
theorem by_65 : BytesIs P 65 96 := by unfold BytesIs; kernel_rfl
theorem zr_65 : ZeroIs P 65 (.agg #[.int .i64 0, .int .i64 0, .int .i64 0, .int .i64 0, .int .i64 0, .int .i64 0, .int .i64 0, .int .i64 0, .int .i64 0, .int .i64 0, .int .i64 0, .int .i64 0]) := by unfold ZeroIs; kernel_rfl
theorem ty_65 : P.underlying 65 = some (.array 12 3) := by kernel_rfl
theorem eg_65 : Program.eqGuardType P P.depth 65 = false := by kernel_rfl
theorem one_67 : OneT P 67 false := by unfold OneT; kernel_rfl
theorem sz_67 : SizeIs P 67 16 := by unfold SizeIs; kernel_rfl
theorem ce_67 : P.cellsOf 67 = 16 := by kernel_rfl
theorem by_67 : BytesIs P 67 144 := by unfold BytesIs; kernel_rfl
theorem zr_67 : ZeroIs P 67 (.agg #[.int .i64 0, .int .i64 0, .int .i64 0, .slice none 0 0, .int .i64 0, .int .i64 0, .int .i64 0, .int .i64 0, .int .i64 0, .int .i64 0, .int .i64 0, .int .i64 0, .int .i64 0, .int .i64 0, .int .i64 0, .int .i64 0]) := by unfold ZeroIs; kernel_rfl
theorem fl_67_0 : FieldIs P 67 0 0 := .of (k := 0) (by kernel_rfl)
theorem fl_67_1 : FieldIs P 67 1 1 := .of (k := 0) (by kernel_rfl)
theorem fl_67_2 : FieldIs P 67 2 2 := .of (k := 0) (by kernel_rfl)
theorem fl_67_3 : FieldIs P 67 3 3 := .of (k := 0) (by kernel_rfl)
theorem fl_67_4 : FieldIs P 67 4 4 := .of (k := 11) (by kernel_rfl)
theorem pl_67 : PlacesAre P 67 #[(0, 1), (1, 1), (2, 1), (3, 1), (4, 12)] := .of (by kernel_rfl)
theorem one_72 : OneT P 72 true := by unfold OneT; kernel_rfl
theorem sz_72 : SizeIs P 72 1 := by unfold SizeIs; kernel_rfl
theorem ce_72 : P.cellsOf 72 = 1 := by kernel_rfl
theorem by_72 : BytesIs P 72 0 := by unfold BytesIs; kernel_rfl
theorem zr_72 : ZeroIs P 72 (.tuple #[.int .i64 0, .nilIface]) := by unfold ZeroIs; kernel_rfl
theorem one_74 : OneT P 74 true := by unfold OneT; kernel_rfl
theorem sz_74 : SizeIs P 74 1 := by unfold SizeIs; kernel_rfl
theorem ce_74 : P.cellsOf 74 = 1 := by kernel_rfl
theorem by_74 : BytesIs P 74 8 := by unfold BytesIs; kernel_rfl
theorem zr_74 : ZeroIs P 74 (.pointer none) := by unfold ZeroIs; kernel_rfl
theorem ty_74 : P.underlying 74 = some (.pointer 5) := by kernel_rfl
theorem one_75 : OneT P 75 false := by unfold OneT; kernel_rfl
theorem sz_75 : SizeIs P 75 8 := by unfold SizeIs; kernel_rfl
theorem ce_75 : P.cellsOf 75 = 8 := by kernel_rfl
theorem by_75 : BytesIs P 75 64 := by unfold BytesIs; kernel_rfl
theorem zr_75 : ZeroIs P 75 (.agg #[.int .u64 0, .int .u64 0, .int .u64 0, .int .u64 0, .int .u64 0, .int .u64 0, .int .u64 0, .int .u64 0]) := by unfold ZeroIs; kernel_rfl
theorem ty_75 : P.underlying 75 = some (.array 8 47) := by kernel_rfl
theorem eg_75 : Program.eqGuardType P P.depth 75 = false := by kernel_rfl
theorem one_77 : OneT P 77 false := by unfold OneT; kernel_rfl
theorem sz_77 : SizeIs P 77 2 := by unfold SizeIs; kernel_rfl
theorem ce_77 : P.cellsOf 77 = 2 := by kernel_rfl
theorem by_77 : BytesIs P 77 32 := by unfold BytesIs; kernel_rfl
theorem zr_77 : ZeroIs P 77 (.agg #[.slice none 0 0, .int .u64 0]) := by unfold ZeroIs; kernel_rfl
theorem fl_77_0 : FieldIs P 77 0 0 := .of (k := 0) (by kernel_rfl)
theorem fl_77_1 : FieldIs P 77 1 1 := .of (k := 0) (by kernel_rfl)
theorem pl_77 : PlacesAre P 77 #[(0, 1), (1, 1)] := .of (by kernel_rfl)
theorem one_79 : OneT P 79 false := by unfold OneT; kernel_rfl
theorem sz_79 : SizeIs P 79 10 := by unfold SizeIs; kernel_rfl
theorem ce_79 : P.cellsOf 79 = 10 := by kernel_rfl
theorem by_79 : BytesIs P 79 96 := by unfold BytesIs; kernel_rfl
theorem zr_79 : ZeroIs P 79 (.agg #[.slice none 0 0, .int .u64 0, .int .u64 0, .int .u64 0, .int .u64 0, .int .u64 0, .int .u64 0, .int .u64 0, .int .u64 0, .int .u64 0]) := by unfold ZeroIs; kernel_rfl
theorem fl_79_0 : FieldIs P 79 0 0 := .of (k := 1) (by kernel_rfl)
theorem fl_79_1 : FieldIs P 79 1 2 := .of (k := 7) (by kernel_rfl)
theorem pl_79 : PlacesAre P 79 #[(0, 2), (2, 8)] := .of (by kernel_rfl)
theorem one_81 : OneT P 81 true := by unfold OneT; kernel_rfl
theorem sz_81 : SizeIs P 81 1 := by unfold SizeIs; kernel_rfl
theorem ce_81 : P.cellsOf 81 = 1 := by kernel_rfl
theorem by_81 : BytesIs P 81 8 := by unfold BytesIs; kernel_rfl
theorem zr_81 : ZeroIs P 81 (.nilFunc) := by unfold ZeroIs; kernel_rfl
theorem one_89 : OneT P 89 true := by unfold OneT; kernel_rfl
theorem sz_89 : SizeIs P 89 1 := by unfold SizeIs; kernel_rfl
theorem ce_89 : P.cellsOf 89 = 1 := by kernel_rfl
theorem by_89 : BytesIs P 89 8 := by unfold BytesIs; kernel_rfl
theorem zr_89 : ZeroIs P 89 (.int .i64 0) := by unfold ZeroIs; kernel_rfl
theorem ty_89 : P.underlying 89 = some (.int .i64) := by kernel_rfl
theorem one_90 : OneT P 90 true := by unfold OneT; kernel_rfl
theorem sz_90 : SizeIs P 90 1 := by unfold SizeIs; kernel_rfl
theorem ce_90 : P.cellsOf 90 = 1 := by kernel_rfl
theorem by_90 : BytesIs P 90 0 := by unfold BytesIs; kernel_rfl
theorem zr_90 : ZeroIs P 90 (.tuple #[.int .i64 0, .int .i64 0]) := by unfold ZeroIs; kernel_rfl
theorem one_94 : OneT P 94 true := by unfold OneT; kernel_rfl
theorem sz_94 : SizeIs P 94 1 := by unfold SizeIs; kernel_rfl
theorem ce_94 : P.cellsOf 94 = 1 := by kernel_rfl
theorem by_94 : BytesIs P 94 0 := by unfold BytesIs; kernel_rfl
theorem zr_94 : ZeroIs P 94 (.tuple #[.int .i64 0, .bool false]) := by unfold ZeroIs; kernel_rfl
theorem one_98 : OneT P 98 true := by unfold OneT; kernel_rfl
theorem sz_98 : SizeIs P 98 1 := by unfold SizeIs; kernel_rfl
theorem ce_98 : P.cellsOf 98 = 1 := by kernel_rfl
theorem by_98 : BytesIs P 98 8 := by unfold BytesIs; kernel_rfl
theorem zr_98 : ZeroIs P 98 (.pointer none) := by unfold ZeroIs; kernel_rfl
theorem one_100 : OneT P 100 true := by unfold OneT; kernel_rfl
theorem sz_100 : SizeIs P 100 1 := by unfold SizeIs; kernel_rfl
theorem ce_100 : P.cellsOf 100 = 1 := by kernel_rfl
theorem by_100 : BytesIs P 100 8 := by unfold BytesIs; kernel_rfl
theorem zr_100 : ZeroIs P 100 (.pointer none) := by unfold ZeroIs; kernel_rfl
theorem ty_100 : P.underlying 100 = some (.pointer 77) := by kernel_rfl
theorem one_101 : OneT P 101 false := by unfold OneT; kernel_rfl
theorem sz_101 : SizeIs P 101 80 := by unfold SizeIs; kernel_rfl
theorem ce_101 : P.cellsOf 101 = 80 := by kernel_rfl
theorem by_101 : BytesIs P 101 640 := by unfold BytesIs; kernel_rfl
theorem zr_101 : ZeroIs P 101 (.agg #[.int .u64 0, .int .u64 0, .int .u64 0, .int .u64 0, .int .u64 0, .int .u64 0, .int .u64 0, .int .u64 0, .int .u64 0, .int .u64 0, .int .u64 0, .int .u64 0, .int .u64 0, .int .u64 0, .int .u64 0, .int .u64 0, .int .u64 0, .int .u64 0, .int .u64 0, .int .u64 0, .int .u64 0, .int .u64 0, .int .u64 0, .int .u64 0, .int .u64 0, .int .u64 0, .int .u64 0, .int .u64 0, .int .u64 0, .int .u64 0, .int .u64 0, .int .u64 0, .int .u64 0, .int .u64 0, .int .u64 0, .int .u64 0, .int .u64 0, .int .u64 0, .int .u64 0, .int .u64 0, .int .u64 0, .int .u64 0, .int .u64 0, .int .u64 0, .int .u64 0, .int .u64 0, .int .u64 0, .int .u64 0, .int .u64 0, .int .u64 0, .int .u64 0, .int .u64 0, .int .u64 0, .int .u64 0, .int .u64 0, .int .u64 0, .int .u64 0, .int .u64 0, .int .u64 0, .int .u64 0, .int .u64 0, .int .u64 0, .int .u64 0, .int .u64 0, .int .u64 0, .int .u64 0, .int .u64 0, .int .u64 0, .int .u64 0, .int .u64 0, .int .u64 0, .int .u64 0, .int .u64 0, .int .u64 0, .int .u64 0, .int .u64 0, .int .u64 0, .int .u64 0, .int .u64 0, .int .u64 0]) := by unfold ZeroIs; kernel_rfl
theorem ty_101 : P.underlying 101 = some (.array 80 47) := by kernel_rfl
theorem eg_101 : Program.eqGuardType P P.depth 101 = false := by kernel_rfl
theorem one_103 : OneT P 103 true := by unfold OneT; kernel_rfl
theorem sz_103 : SizeIs P 103 1 := by unfold SizeIs; kernel_rfl
theorem ce_103 : P.cellsOf 103 = 1 := by kernel_rfl
theorem by_103 : BytesIs P 103 8 := by unfold BytesIs; kernel_rfl
theorem zr_103 : ZeroIs P 103 (.int .u64 0) := by unfold ZeroIs; kernel_rfl
theorem ty_103 : P.underlying 103 = some (.int .u64) := by kernel_rfl
theorem one_107 : OneT P 107 true := by unfold OneT; kernel_rfl
theorem sz_107 : SizeIs P 107 1 := by unfold SizeIs; kernel_rfl
theorem ce_107 : P.cellsOf 107 = 1 := by kernel_rfl
theorem by_107 : BytesIs P 107 8 := by unfold BytesIs; kernel_rfl
theorem zr_107 : ZeroIs P 107 (.pointer none) := by unfold ZeroIs; kernel_rfl
theorem ty_107 : P.underlying 107 = some (.pointer 3) := by kernel_rfl
theorem one_111 : OneT P 111 true := by unfold OneT; kernel_rfl
theorem sz_111 : SizeIs P 111 1 := by unfold SizeIs; kernel_rfl
theorem ce_111 : P.cellsOf 111 = 1 := by kernel_rfl
theorem by_111 : BytesIs P 111 8 := by unfold BytesIs; kernel_rfl
theorem zr_111 : ZeroIs P 111 (.pointer none) := by unfold ZeroIs; kernel_rfl
theorem ty_111 : P.underlying 111 = some (.pointer 103) := by kernel_rfl
theorem one_112 : OneT P 112 true := by unfold OneT; kernel_rfl
theorem sz_112 : SizeIs P 112 1 := by unfold SizeIs; kernel_rfl
theorem ce_112 : P.cellsOf 112 = 1 := by kernel_rfl
theorem by_112 : BytesIs P 112 0 := by unfold BytesIs; kernel_rfl
theorem zr_112 : ZeroIs P 112 (.tuple #[.int .i64 0, .int .i64 0]) := by unfold ZeroIs; kernel_rfl
theorem one_121 : OneT P 121 true := by unfold OneT; kernel_rfl
theorem sz_121 : SizeIs P 121 1 := by unfold SizeIs; kernel_rfl
theorem ce_121 : P.cellsOf 121 = 1 := by kernel_rfl
theorem by_121 : BytesIs P 121 1 := by unfold BytesIs; kernel_rfl
theorem zr_121 : ZeroIs P 121 (.int .u8 0) := by unfold ZeroIs; kernel_rfl
theorem ty_121 : P.underlying 121 = some (.int .u8) := by kernel_rfl
theorem has_2 : Has P 2 := ⟨_, Go.Proofs.Try.func2, by kernel_rfl, by kernel_rfl⟩
theorem has_3 : Has P 3 := ⟨_, Go.Proofs.Try.func3, by kernel_rfl, by kernel_rfl⟩
theorem has_4 : Has P 4 := ⟨_, Go.Proofs.Try.func4, by kernel_rfl, by kernel_rfl⟩
theorem has_5 : Has P 5 := ⟨_, Go.Proofs.Try.func5, by kernel_rfl, by kernel_rfl⟩
theorem has_6 : Has P 6 := ⟨_, Go.Proofs.Try.func6, by kernel_rfl, by kernel_rfl⟩
theorem has_7 : Has P 7 := ⟨_, Go.Proofs.Try.func7, by kernel_rfl, by kernel_rfl⟩
theorem has_8 : Has P 8 := ⟨_, Go.Proofs.Try.func8, by kernel_rfl, by kernel_rfl⟩
theorem has_9 : Has P 9 := ⟨_, Go.Proofs.Try.func9, by kernel_rfl, by kernel_rfl⟩
theorem has_10 : Has P 10 := ⟨_, Go.Proofs.Try.func10, by kernel_rfl, by kernel_rfl⟩
theorem has_11 : Has P 11 := ⟨_, Go.Proofs.Try.func11, by kernel_rfl, by kernel_rfl⟩
theorem has_12 : Has P 12 := ⟨_, Go.Proofs.Try.func12, by kernel_rfl, by kernel_rfl⟩
theorem has_13 : Has P 13 := ⟨_, Go.Proofs.Try.func13, by kernel_rfl, by kernel_rfl⟩
theorem has_14 : Has P 14 := ⟨_, Go.Proofs.Try.func14, by kernel_rfl, by kernel_rfl⟩
theorem has_15 : Has P 15 := ⟨_, Go.Proofs.Try.func15, by kernel_rfl, by kernel_rfl⟩
theorem has_16 : Has P 16 := ⟨_, Go.Proofs.Try.func16, by kernel_rfl, by kernel_rfl⟩
theorem has_17 : Has P 17 := ⟨_, Go.Proofs.Try.func17, by kernel_rfl, by kernel_rfl⟩
theorem has_18 : Has P 18 := ⟨_, Go.Proofs.Try.func18, by kernel_rfl, by kernel_rfl⟩
theorem has_19 : Has P 19 := ⟨_, Go.Proofs.Try.func19, by kernel_rfl, by kernel_rfl⟩
theorem has_20 : Has P 20 := ⟨_, Go.Proofs.Try.func20, by kernel_rfl, by kernel_rfl⟩
theorem has_21 : Has P 21 := ⟨_, Go.Proofs.Try.func21, by kernel_rfl, by kernel_rfl⟩
theorem has_22 : Has P 22 := ⟨_, Go.Proofs.Try.func22, by kernel_rfl, by kernel_rfl⟩
theorem has_23 : Has P 23 := ⟨_, Go.Proofs.Try.func23, by kernel_rfl, by kernel_rfl⟩
theorem has_24 : Has P 24 := ⟨_, Go.Proofs.Try.func24, by kernel_rfl, by kernel_rfl⟩
theorem has_25 : Has P 25 := ⟨_, Go.Proofs.Try.func25, by kernel_rfl, by kernel_rfl⟩
theorem has_26 : Has P 26 := ⟨_, Go.Proofs.Try.func26, by kernel_rfl, by kernel_rfl⟩
theorem has_27 : Has P 27 := ⟨_, Go.Proofs.Try.func27, by kernel_rfl, by kernel_rfl⟩
theorem has_28 : Has P 28 := ⟨_, Go.Proofs.Try.func28, by kernel_rfl, by kernel_rfl⟩
theorem has_29 : Has P 29 := ⟨_, Go.Proofs.Try.func29, by kernel_rfl, by kernel_rfl⟩
theorem has_30 : Has P 30 := ⟨_, Go.Proofs.Try.func30, by kernel_rfl, by kernel_rfl⟩
theorem has_31 : Has P 31 := ⟨_, Go.Proofs.Try.func31, by kernel_rfl, by kernel_rfl⟩
theorem has_32 : Has P 32 := ⟨_, Go.Proofs.Try.func32, by kernel_rfl, by kernel_rfl⟩
theorem has_33 : Has P 33 := ⟨_, Go.Proofs.Try.func33, by kernel_rfl, by kernel_rfl⟩
theorem has_34 : Has P 34 := ⟨_, Go.Proofs.Try.func34, by kernel_rfl, by kernel_rfl⟩
theorem has_35 : Has P 35 := ⟨_, Go.Proofs.Try.func35, by kernel_rfl, by kernel_rfl⟩
theorem has_36 : Has P 36 := ⟨_, Go.Proofs.Try.func36, by kernel_rfl, by kernel_rfl⟩
theorem has_37 : Has P 37 := ⟨_, Go.Proofs.Try.func37, by kernel_rfl, by kernel_rfl⟩
theorem has_38 : Has P 38 := ⟨_, Go.Proofs.Try.func38, by kernel_rfl, by kernel_rfl⟩
theorem has_39 : Has P 39 := ⟨_, Go.Proofs.Try.func39, by kernel_rfl, by kernel_rfl⟩
theorem has_40 : Has P 40 := ⟨_, Go.Proofs.Try.func40, by kernel_rfl, by kernel_rfl⟩
theorem has_41 : Has P 41 := ⟨_, Go.Proofs.Try.func41, by kernel_rfl, by kernel_rfl⟩
theorem has_42 : Has P 42 := ⟨_, Go.Proofs.Try.func42, by kernel_rfl, by kernel_rfl⟩
theorem has_43 : Has P 43 := ⟨_, Go.Proofs.Try.func43, by kernel_rfl, by kernel_rfl⟩
theorem has_44 : Has P 44 := ⟨_, Go.Proofs.Try.func44, by kernel_rfl, by kernel_rfl⟩
theorem has_45 : Has P 45 := ⟨_, Go.Proofs.Try.func45, by kernel_rfl, by kernel_rfl⟩
theorem has_46 : Has P 46 := ⟨_, Go.Proofs.Try.func46, by kernel_rfl, by kernel_rfl⟩
theorem has_47 : Has P 47 := ⟨_, Go.Proofs.Try.func47, by kernel_rfl, by kernel_rfl⟩
theorem has_48 : Has P 48 := ⟨_, Go.Proofs.Try.func48, by kernel_rfl, by kernel_rfl⟩
theorem has_49 : Has P 49 := ⟨_, Go.Proofs.Try.func49, by kernel_rfl, by kernel_rfl⟩
theorem has_50 : Has P 50 := ⟨_, Go.Proofs.Try.func50, by kernel_rfl, by kernel_rfl⟩
theorem has_51 : Has P 51 := ⟨_, Go.Proofs.Try.func51, by kernel_rfl, by kernel_rfl⟩
theorem has_52 : Has P 52 := ⟨_, Go.Proofs.Try.func52, by kernel_rfl, by kernel_rfl⟩
theorem has_54 : Has P 54 := ⟨_, Go.Proofs.Try.func54, by kernel_rfl, by kernel_rfl⟩
theorem has_55 : Has P 55 := ⟨_, Go.Proofs.Try.func55, by kernel_rfl, by kernel_rfl⟩
theorem has_56 : Has P 56 := ⟨_, Go.Proofs.Try.func56, by kernel_rfl, by kernel_rfl⟩
theorem has_57 : Has P 57 := ⟨_, Go.Proofs.Try.func57, by kernel_rfl, by kernel_rfl⟩
theorem has_58 : Has P 58 := ⟨_, Go.Proofs.Try.func58, by kernel_rfl, by kernel_rfl⟩
theorem has_59 : Has P 59 := ⟨_, Go.Proofs.Try.func59, by kernel_rfl, by kernel_rfl⟩
theorem has_60 : Has P 60 := ⟨_, Go.Proofs.Try.func60, by kernel_rfl, by kernel_rfl⟩
theorem has_61 : Has P 61 := ⟨_, Go.Proofs.Try.func61, by kernel_rfl, by kernel_rfl⟩
theorem has_63 : Has P 63 := ⟨_, Go.Proofs.Try.func63, by kernel_rfl, by kernel_rfl⟩
end Go.Proofs.Ytdgbckfnamiebaa.S
