/- The closed facts of this seat's program: its types and functions, as the kernel reckons them. Written by a program of the prover's own (gen.py). -/
import Derived.Test.YtfjedhmffccgnaaGreatDoorOps6
import Derived.Test.YtfjedhmffccgnaaGreatDoorProg
namespace Go.Proofs.YtfjedhmffccgnaaGreatDoor.S
noncomputable abbrev P : Program := Go.Proofs.Tryz.prog
theorem mixed : P.follows .mixedOrders = true := by kernel_rfl
theorem one_3 : OneT P 3 true := by unfold OneT; kernel_rfl
theorem sz_3 : SizeIs P 3 1 := by unfold SizeIs; kernel_rfl
theorem ce_3 : P.cellsOf 3 = 1 := by kernel_rfl
theorem by_3 : BytesIs P 3 8 := by unfold BytesIs; kernel_rfl
theorem zr_3 : ZeroIs P 3 (.int .i64 0) := by unfold ZeroIs; kernel_rfl
theorem ty_3 : P.underlying 3 = some (.int .i64) := by kernel_rfl
theorem one_4 : OneT P 4 true := by unfold OneT; kernel_rfl
theorem one_5 : OneT P 5 true := by unfold OneT; kernel_rfl
theorem sz_5 : SizeIs P 5 1 := by unfold SizeIs; kernel_rfl
theorem by_5 : BytesIs P 5 1 := by unfold BytesIs; kernel_rfl
theorem zr_5 : ZeroIs P 5 (.int .u8 0) := by unfold ZeroIs; kernel_rfl
theorem ty_5 : P.underlying 5 = some (.int .u8) := by kernel_rfl
theorem ty_9 : P.underlying 9 = some .string := by kernel_rfl
theorem ty_22 : P.underlying 22 = some (.slice 30) := by kernel_rfl
theorem ty_23 : P.underlying 23 = some (.slice 34) := by kernel_rfl
theorem kd_23 : Kd P 23 := .inl ⟨_, ty_23⟩
theorem one_24 : OneT P 24 true := by unfold OneT; kernel_rfl
theorem sz_24 : SizeIs P 24 1 := by unfold SizeIs; kernel_rfl
theorem ty_24 : P.underlying 24 = some (.slice 32) := by kernel_rfl
theorem kd_24 : Kd P 24 := .inl ⟨_, ty_24⟩
theorem one_25 : OneT P 25 true := by unfold OneT; kernel_rfl
theorem sz_25 : SizeIs P 25 1 := by unfold SizeIs; kernel_rfl
theorem ty_25 : P.underlying 25 = some (.slice 3) := by kernel_rfl
theorem kd_25 : Kd P 25 := .inl ⟨_, ty_25⟩
theorem one_30 : OneT P 30 false := by unfold OneT; kernel_rfl
theorem sz_30 : SizeIs P 30 2 := by unfold SizeIs; kernel_rfl
theorem ce_30 : P.cellsOf 30 = 2 := by kernel_rfl
theorem zr_30 : ZeroIs P 30 (.agg #[.int .i64 0, .int .i64 0]) := by unfold ZeroIs; kernel_rfl
theorem fl_30_0 : FieldIs P 30 0 0 := .of (k := 0) (by kernel_rfl)
theorem fl_30_1 : FieldIs P 30 1 1 := .of (k := 0) (by kernel_rfl)
theorem pl_30 : PlacesAre P 30 #[(0, 1), (1, 1)] := .of (by kernel_rfl)
theorem one_32 : OneT P 32 false := by unfold OneT; kernel_rfl
theorem sz_32 : SizeIs P 32 3 := by unfold SizeIs; kernel_rfl
theorem by_32 : BytesIs P 32 48 := by unfold BytesIs; kernel_rfl
theorem zr_32 : ZeroIs P 32 (.agg #[.int .i64 0, .string ⟨#[]⟩, .slice none 0 0]) := by unfold ZeroIs; kernel_rfl
theorem pl_32 : PlacesAre P 32 #[(0, 1), (1, 1), (2, 1)] := .of (by kernel_rfl)
theorem one_34 : OneT P 34 false := by unfold OneT; kernel_rfl
theorem sz_34 : SizeIs P 34 6 := by unfold SizeIs; kernel_rfl
theorem by_34 : BytesIs P 34 88 := by unfold BytesIs; kernel_rfl
theorem zr_34 : ZeroIs P 34 (.agg #[.int .i64 0, .int .i64 0, .slice none 0 0, .int .i64 0, .string ⟨#[]⟩, .slice none 0 0]) := by unfold ZeroIs; kernel_rfl
theorem fl_34_1 : FieldIs P 34 1 1 := .of (k := 0) (by kernel_rfl)
theorem fl_34_2 : FieldIs P 34 2 2 := .of (k := 0) (by kernel_rfl)
theorem pl_34 : PlacesAre P 34 #[(0, 1), (1, 1), (2, 1), (3, 3)] := .of (by kernel_rfl)
theorem one_36 : OneT P 36 false := by unfold OneT; kernel_rfl
theorem sz_36 : SizeIs P 36 32 := by unfold SizeIs; kernel_rfl
theorem zr_36 : ZeroIs P 36 (.agg #[.int .u8 0, .int .u8 0, .int .u8 0, .int .u8 0, .int .u8 0, .int .u8 0, .int .u8 0, .int .u8 0, .int .u8 0, .int .u8 0, .int .u8 0, .int .u8 0, .int .u8 0, .int .u8 0, .int .u8 0, .int .u8 0, .int .u8 0, .int .u8 0, .int .u8 0, .int .u8 0, .int .u8 0, .int .u8 0, .int .u8 0, .int .u8 0, .int .u8 0, .int .u8 0, .int .u8 0, .int .u8 0, .int .u8 0, .int .u8 0, .int .u8 0, .int .u8 0]) := by unfold ZeroIs; kernel_rfl
theorem ty_36 : P.underlying 36 = some (.array 32 5) := by kernel_rfl
theorem eg_36 : Program.eqGuardType P P.depth 36 = false := by kernel_rfl
theorem one_37 : OneT P 37 true := by unfold OneT; kernel_rfl
theorem sz_37 : SizeIs P 37 1 := by unfold SizeIs; kernel_rfl
theorem by_37 : BytesIs P 37 4 := by unfold BytesIs; kernel_rfl
theorem zr_37 : ZeroIs P 37 (.int .u32 0) := by unfold ZeroIs; kernel_rfl
theorem ty_37 : P.underlying 37 = some (.int .u32) := by kernel_rfl
theorem one_38 : OneT P 38 true := by unfold OneT; kernel_rfl
theorem sz_38 : SizeIs P 38 1 := by unfold SizeIs; kernel_rfl
theorem ty_38 : P.underlying 38 = some (.slice 55) := by kernel_rfl
theorem kd_38 : Kd P 38 := .inl ⟨_, ty_38⟩
theorem one_40 : OneT P 40 false := by unfold OneT; kernel_rfl
theorem sz_40 : SizeIs P 40 34 := by unfold SizeIs; kernel_rfl
theorem zr_40 : ZeroIs P 40 (.agg #[.int .u32 0, .int .u8 0, .int .u8 0, .int .u8 0, .int .u8 0, .int .u8 0, .int .u8 0, .int .u8 0, .int .u8 0, .int .u8 0, .int .u8 0, .int .u8 0, .int .u8 0, .int .u8 0, .int .u8 0, .int .u8 0, .int .u8 0, .int .u8 0, .int .u8 0, .int .u8 0, .int .u8 0, .int .u8 0, .int .u8 0, .int .u8 0, .int .u8 0, .int .u8 0, .int .u8 0, .int .u8 0, .int .u8 0, .int .u8 0, .int .u8 0, .int .u8 0, .int .u8 0, .slice none 0 0]) := by unfold ZeroIs; kernel_rfl
theorem fl_40_0 : FieldIs P 40 0 0 := .of (k := 0) (by kernel_rfl)
theorem fl_40_1 : FieldIs P 40 1 1 := .of (k := 31) (by kernel_rfl)
theorem fl_40_2 : FieldIs P 40 2 33 := .of (k := 0) (by kernel_rfl)
theorem pl_40 : PlacesAre P 40 #[(0, 1), (1, 32), (33, 1)] := .of (by kernel_rfl)
theorem one_41 : OneT P 41 true := by unfold OneT; kernel_rfl
theorem ty_41 : P.underlying 41 = some (.slice 36) := by kernel_rfl
theorem one_42 : OneT P 42 true := by unfold OneT; kernel_rfl
theorem ty_42 : P.underlying 42 = some (.slice 37) := by kernel_rfl
theorem kd_42 : Kd P 42 := .inl ⟨_, ty_42⟩
theorem one_43 : OneT P 43 true := by unfold OneT; kernel_rfl
theorem sz_43 : SizeIs P 43 1 := by unfold SizeIs; kernel_rfl
theorem ty_43 : P.underlying 43 = some (.slice 74) := by kernel_rfl
theorem one_44 : OneT P 44 true := by unfold OneT; kernel_rfl
theorem sz_44 : SizeIs P 44 1 := by unfold SizeIs; kernel_rfl
theorem by_44 : BytesIs P 44 24 := by unfold BytesIs; kernel_rfl
theorem zr_44 : ZeroIs P 44 (.slice none 0 0) := by unfold ZeroIs; kernel_rfl
theorem ty_44 : P.underlying 44 = some (.slice 5) := by kernel_rfl
theorem kd_44 : Kd P 44 := .inl ⟨_, ty_44⟩
theorem one_46 : OneT P 46 false := by unfold OneT; kernel_rfl
theorem sz_46 : SizeIs P 46 5 := by unfold SizeIs; kernel_rfl
theorem zr_46 : ZeroIs P 46 (.agg #[.int .i64 0, .slice none 0 0, .slice none 0 0, .slice none 0 0, .slice none 0 0]) := by unfold ZeroIs; kernel_rfl
theorem fl_46_0 : FieldIs P 46 0 0 := .of (k := 0) (by kernel_rfl)
theorem fl_46_1 : FieldIs P 46 1 1 := .of (k := 0) (by kernel_rfl)
theorem fl_46_2 : FieldIs P 46 2 2 := .of (k := 0) (by kernel_rfl)
theorem fl_46_3 : FieldIs P 46 3 3 := .of (k := 0) (by kernel_rfl)
theorem fl_46_4 : FieldIs P 46 4 4 := .of (k := 0) (by kernel_rfl)
theorem pl_46 : PlacesAre P 46 #[(0, 1), (1, 1), (2, 1), (3, 1), (4, 1)] := .of (by kernel_rfl)
theorem one_51 : OneT P 51 false := by unfold OneT; kernel_rfl
theorem sz_51 : SizeIs P 51 68 := by unfold SizeIs; kernel_rfl
theorem zr_51 : ZeroIs P 51 (.agg #[.int .u32 0, .int .u32 0, .int .u32 0, .int .u8 0, .int .u8 0, .int .u8 0, .int .u8 0, .int .u8 0, .int .u8 0, .int .u8 0, .int .u8 0, .int .u8 0, .int .u8 0, .int .u8 0, .int .u8 0, .int .u8 0, .int .u8 0, .int .u8 0, .int .u8 0, .int .u8 0, .int .u8 0, .int .u8 0, .int .u8 0, .int .u8 0, .int .u8 0, .int .u8 0, .int .u8 0, .int .u8 0, .int .u8 0, .int .u8 0, .int .u8 0, .int .u8 0, .int .u8 0, .int .u8 0, .int .u8 0, .int .u8 0, .int .u8 0, .int .u8 0, .int .u8 0, .int .u8 0, .int .u8 0, .int .u8 0, .int .u8 0, .int .u8 0, .int .u8 0, .int .u8 0, .int .u8 0, .int .u8 0, .int .u8 0, .int .u8 0, .int .u8 0, .int .u8 0, .int .u8 0, .int .u8 0, .int .u8 0, .int .u8 0, .int .u8 0, .int .u8 0, .int .u8 0, .int .u8 0, .int .u8 0, .int .u8 0, .int .u8 0, .int .u8 0, .int .u8 0, .int .u8 0, .int .u8 0, .slice none 0 0]) := by unfold ZeroIs; kernel_rfl
theorem fl_51_0 : FieldIs P 51 0 0 := .of (k := 0) (by kernel_rfl)
theorem fl_51_1 : FieldIs P 51 1 1 := .of (k := 0) (by kernel_rfl)
theorem fl_51_2 : FieldIs P 51 2 2 := .of (k := 0) (by kernel_rfl)
theorem fl_51_3 : FieldIs P 51 3 3 := .of (k := 31) (by kernel_rfl)
theorem fl_51_4 : FieldIs P 51 4 35 := .of (k := 31) (by kernel_rfl)
theorem fl_51_5 : FieldIs P 51 5 67 := .of (k := 0) (by kernel_rfl)
theorem pl_51 : PlacesAre P 51 #[(0, 1), (1, 1), (2, 1), (3, 32), (35, 32), (67, 1)] := .of (by kernel_rfl)
theorem one_55 : OneT P 55 false := by unfold OneT; kernel_rfl
theorem sz_55 : SizeIs P 55 66 := by unfold SizeIs; kernel_rfl
theorem by_55 : BytesIs P 55 72 := by unfold BytesIs; kernel_rfl
theorem zr_55 : ZeroIs P 55 (.agg #[.int .u32 0, .bool false, .int .u8 0, .int .u8 0, .int .u8 0, .int .u8 0, .int .u8 0, .int .u8 0, .int .u8 0, .int .u8 0, .int .u8 0, .int .u8 0, .int .u8 0, .int .u8 0, .int .u8 0, .int .u8 0, .int .u8 0, .int .u8 0, .int .u8 0, .int .u8 0, .int .u8 0, .int .u8 0, .int .u8 0, .int .u8 0, .int .u8 0, .int .u8 0, .int .u8 0, .int .u8 0, .int .u8 0, .int .u8 0, .int .u8 0, .int .u8 0, .int .u8 0, .int .u8 0, .int .u8 0, .int .u8 0, .int .u8 0, .int .u8 0, .int .u8 0, .int .u8 0, .int .u8 0, .int .u8 0, .int .u8 0, .int .u8 0, .int .u8 0, .int .u8 0, .int .u8 0, .int .u8 0, .int .u8 0, .int .u8 0, .int .u8 0, .int .u8 0, .int .u8 0, .int .u8 0, .int .u8 0, .int .u8 0, .int .u8 0, .int .u8 0, .int .u8 0, .int .u8 0, .int .u8 0, .int .u8 0, .int .u8 0, .int .u8 0, .int .u8 0, .int .u8 0]) := by unfold ZeroIs; kernel_rfl
theorem fl_55_0 : FieldIs P 55 0 0 := .of (k := 0) (by kernel_rfl)
theorem fl_55_1 : FieldIs P 55 1 1 := .of (k := 0) (by kernel_rfl)
theorem fl_55_2 : FieldIs P 55 2 2 := .of (k := 31) (by kernel_rfl)
theorem pl_55 : PlacesAre P 55 #[(0, 1), (1, 1), (2, 32), (34, 32)] := .of (by kernel_rfl)
theorem zr_62 : ZeroIs P 62 (.agg #[.slice none 0 0, .int .i64 0, .int .i64 0, .slice none 0 0, .slice none 0 0]) := by unfold ZeroIs; kernel_rfl
theorem fl_62_0 : FieldIs P 62 0 0 := .of (k := 0) (by kernel_rfl)
theorem fl_62_1 : FieldIs P 62 1 1 := .of (k := 0) (by kernel_rfl)
theorem fl_62_2 : FieldIs P 62 2 2 := .of (k := 0) (by kernel_rfl)
theorem fl_62_3 : FieldIs P 62 3 3 := .of (k := 0) (by kernel_rfl)
theorem fl_62_4 : FieldIs P 62 4 4 := .of (k := 0) (by kernel_rfl)
theorem pl_62 : PlacesAre P 62 #[(0, 1), (1, 1), (2, 1), (3, 1), (4, 1)] := .of (by kernel_rfl)
theorem one_74 : OneT P 74 false := by unfold OneT; kernel_rfl
theorem sz_74 : SizeIs P 74 64 := by unfold SizeIs; kernel_rfl
theorem zr_74 : ZeroIs P 74 (.agg #[.int .u8 0, .int .u8 0, .int .u8 0, .int .u8 0, .int .u8 0, .int .u8 0, .int .u8 0, .int .u8 0, .int .u8 0, .int .u8 0, .int .u8 0, .int .u8 0, .int .u8 0, .int .u8 0, .int .u8 0, .int .u8 0, .int .u8 0, .int .u8 0, .int .u8 0, .int .u8 0, .int .u8 0, .int .u8 0, .int .u8 0, .int .u8 0, .int .u8 0, .int .u8 0, .int .u8 0, .int .u8 0, .int .u8 0, .int .u8 0, .int .u8 0, .int .u8 0, .int .u8 0, .int .u8 0, .int .u8 0, .int .u8 0, .int .u8 0, .int .u8 0, .int .u8 0, .int .u8 0, .int .u8 0, .int .u8 0, .int .u8 0, .int .u8 0, .int .u8 0, .int .u8 0, .int .u8 0, .int .u8 0, .int .u8 0, .int .u8 0, .int .u8 0, .int .u8 0, .int .u8 0, .int .u8 0, .int .u8 0, .int .u8 0, .int .u8 0, .int .u8 0, .int .u8 0, .int .u8 0, .int .u8 0, .int .u8 0, .int .u8 0, .int .u8 0]) := by unfold ZeroIs; kernel_rfl
theorem ty_74 : P.underlying 74 = some (.array 64 5) := by kernel_rfl
theorem one_79 : OneT P 79 true := by unfold OneT; kernel_rfl
theorem sz_79 : SizeIs P 79 1 := by unfold SizeIs; kernel_rfl
theorem ty_79 : P.underlying 79 = some (.int .u64) := by kernel_rfl
theorem one_80 : OneT P 80 false := by unfold OneT; kernel_rfl
theorem sz_80 : SizeIs P 80 5 := by unfold SizeIs; kernel_rfl
theorem zr_80 : ZeroIs P 80 (.agg #[.int .u64 0, .int .u64 0, .int .u64 0, .int .u64 0, .int .u64 0]) := by unfold ZeroIs; kernel_rfl
theorem ty_80 : P.underlying 80 = some (.array 5 79) := by kernel_rfl
theorem one_82 : OneT P 82 false := by unfold OneT; kernel_rfl
theorem sz_82 : SizeIs P 82 5 := by unfold SizeIs; kernel_rfl
theorem zr_82 : ZeroIs P 82 (.agg #[.int .u64 0, .int .u64 0, .int .u64 0, .int .u64 0, .int .u64 0]) := by unfold ZeroIs; kernel_rfl
theorem fl_82_0 : FieldIs P 82 0 0 := .of (k := 4) (by kernel_rfl)
theorem pl_82 : PlacesAre P 82 #[(0, 5)] := .of (by kernel_rfl)
theorem one_84 : OneT P 84 false := by unfold OneT; kernel_rfl
theorem sz_84 : SizeIs P 84 20 := by unfold SizeIs; kernel_rfl
theorem zr_84 : ZeroIs P 84 (.agg #[.int .u64 0, .int .u64 0, .int .u64 0, .int .u64 0, .int .u64 0, .int .u64 0, .int .u64 0, .int .u64 0, .int .u64 0, .int .u64 0, .int .u64 0, .int .u64 0, .int .u64 0, .int .u64 0, .int .u64 0, .int .u64 0, .int .u64 0, .int .u64 0, .int .u64 0, .int .u64 0]) := by unfold ZeroIs; kernel_rfl
theorem fl_84_0 : FieldIs P 84 0 0 := .of (k := 4) (by kernel_rfl)
theorem fl_84_1 : FieldIs P 84 1 5 := .of (k := 4) (by kernel_rfl)
theorem fl_84_2 : FieldIs P 84 2 10 := .of (k := 4) (by kernel_rfl)
theorem fl_84_3 : FieldIs P 84 3 15 := .of (k := 4) (by kernel_rfl)
theorem pl_84 : PlacesAre P 84 #[(0, 5), (5, 5), (10, 5), (15, 5)] := .of (by kernel_rfl)
theorem one_88 : OneT P 88 false := by unfold OneT; kernel_rfl
theorem sz_88 : SizeIs P 88 64 := by unfold SizeIs; kernel_rfl
theorem zr_88 : ZeroIs P 88 (.agg #[.int .u8 0, .int .u8 0, .int .u8 0, .int .u8 0, .int .u8 0, .int .u8 0, .int .u8 0, .int .u8 0, .int .u8 0, .int .u8 0, .int .u8 0, .int .u8 0, .int .u8 0, .int .u8 0, .int .u8 0, .int .u8 0, .int .u8 0, .int .u8 0, .int .u8 0, .int .u8 0, .int .u8 0, .int .u8 0, .int .u8 0, .int .u8 0, .int .u8 0, .int .u8 0, .int .u8 0, .int .u8 0, .int .u8 0, .int .u8 0, .int .u8 0, .int .u8 0, .int .u8 0, .int .u8 0, .int .u8 0, .int .u8 0, .int .u8 0, .int .u8 0, .int .u8 0, .int .u8 0, .int .u8 0, .int .u8 0, .int .u8 0, .int .u8 0, .int .u8 0, .int .u8 0, .int .u8 0, .int .u8 0, .int .u8 0, .int .u8 0, .int .u8 0, .int .u8 0, .int .u8 0, .int .u8 0, .int .u8 0, .int .u8 0, .int .u8 0, .int .u8 0, .int .u8 0, .int .u8 0, .int .u8 0, .int .u8 0, .int .u8 0, .int .u8 0]) := by unfold ZeroIs; kernel_rfl
theorem fl_88_0 : FieldIs P 88 0 0 := .of (k := 31) (by kernel_rfl)
theorem fl_88_1 : FieldIs P 88 1 32 := .of (k := 31) (by kernel_rfl)
theorem pl_88 : PlacesAre P 88 #[(0, 32), (32, 32)] := .of (by kernel_rfl)
theorem ty_104 : P.underlying 104 = some (.int .u64) := by kernel_rfl
theorem one_109 : OneT P 109 false := by unfold OneT; kernel_rfl
theorem sz_109 : SizeIs P 109 4 := by unfold SizeIs; kernel_rfl
theorem zr_109 : ZeroIs P 109 (.agg #[.int .i64 0, .int .i64 0, .int .i64 0, .bool false]) := by unfold ZeroIs; kernel_rfl
theorem fl_109_0 : FieldIs P 109 0 0 := .of (k := 0) (by kernel_rfl)
theorem fl_109_1 : FieldIs P 109 1 1 := .of (k := 0) (by kernel_rfl)
theorem fl_109_2 : FieldIs P 109 2 2 := .of (k := 0) (by kernel_rfl)
theorem fl_109_3 : FieldIs P 109 3 3 := .of (k := 0) (by kernel_rfl)
theorem pl_109 : PlacesAre P 109 #[(0, 1), (1, 1), (2, 1), (3, 1)] := .of (by kernel_rfl)
theorem sz_113 : SizeIs P 113 1 := by unfold SizeIs; kernel_rfl
theorem zr_113 : ZeroIs P 113 (.agg #[.slice none 0 0]) := by unfold ZeroIs; kernel_rfl
theorem fl_113_0 : FieldIs P 113 0 0 := .of (k := 0) (by kernel_rfl)
theorem pl_113 : PlacesAre P 113 #[(0, 1)] := .of (by kernel_rfl)
theorem ty_115 : P.underlying 115 = some (.slice 44) := by kernel_rfl
theorem kd_115 : Kd P 115 := .inl ⟨_, ty_115⟩
theorem ty_148 : P.underlying 148 = some (.slice 37) := by kernel_rfl
theorem kd_148 : Kd P 148 := .inl ⟨_, ty_148⟩
theorem one_154 : OneT P 154 false := by unfold OneT; kernel_rfl
theorem sz_154 : SizeIs P 154 2 := by unfold SizeIs; kernel_rfl
theorem zr_154 : ZeroIs P 154 (.agg #[.int .u64 0, .int .u64 0]) := by unfold ZeroIs; kernel_rfl
theorem fl_154_0 : FieldIs P 154 0 0 := .of (k := 0) (by kernel_rfl)
theorem fl_154_1 : FieldIs P 154 1 1 := .of (k := 0) (by kernel_rfl)
theorem pl_154 : PlacesAre P 154 #[(0, 1), (1, 1)] := .of (by kernel_rfl)
theorem ty_168 : P.underlying 168 = some (.slice 84) := by kernel_rfl
theorem one_169 : OneT P 169 false := by unfold OneT; kernel_rfl
theorem sz_169 : SizeIs P 169 8 := by unfold SizeIs; kernel_rfl
theorem zr_169 : ZeroIs P 169 (.agg #[.int .u32 0, .int .u32 0, .int .u32 0, .int .u32 0, .int .u32 0, .int .u32 0, .int .u32 0, .int .u32 0]) := by unfold ZeroIs; kernel_rfl
theorem ty_169 : P.underlying 169 = some (.array 8 37) := by kernel_rfl
theorem zr_171 : ZeroIs P 171 (.agg #[.slice none 0 0, .int .u64 0]) := by unfold ZeroIs; kernel_rfl
theorem fl_171_0 : FieldIs P 171 0 0 := .of (k := 0) (by kernel_rfl)
theorem fl_171_1 : FieldIs P 171 1 1 := .of (k := 0) (by kernel_rfl)
theorem pl_171 : PlacesAre P 171 #[(0, 1), (1, 1)] := .of (by kernel_rfl)
theorem zr_173 : ZeroIs P 173 (.agg #[.slice none 0 0, .int .u64 0, .int .u32 0, .int .u32 0, .int .u32 0, .int .u32 0, .int .u32 0, .int .u32 0, .int .u32 0, .int .u32 0]) := by unfold ZeroIs; kernel_rfl
theorem fl_173_0 : FieldIs P 173 0 0 := .of (k := 1) (by kernel_rfl)
theorem fl_173_1 : FieldIs P 173 1 2 := .of (k := 7) (by kernel_rfl)
theorem pl_173 : PlacesAre P 173 #[(0, 2), (2, 8)] := .of (by kernel_rfl)
theorem ty_187 : P.underlying 187 = some (.slice 82) := by kernel_rfl
theorem one_188 : OneT P 188 false := by unfold OneT; kernel_rfl
theorem sz_188 : SizeIs P 188 8 := by unfold SizeIs; kernel_rfl
theorem zr_188 : ZeroIs P 188 (.agg #[.int .u64 0, .int .u64 0, .int .u64 0, .int .u64 0, .int .u64 0, .int .u64 0, .int .u64 0, .int .u64 0]) := by unfold ZeroIs; kernel_rfl
theorem ty_188 : P.underlying 188 = some (.array 8 79) := by kernel_rfl
theorem zr_190 : ZeroIs P 190 (.agg #[.slice none 0 0, .int .u64 0, .int .u64 0, .int .u64 0, .int .u64 0, .int .u64 0, .int .u64 0, .int .u64 0, .int .u64 0, .int .u64 0]) := by unfold ZeroIs; kernel_rfl
theorem fl_190_0 : FieldIs P 190 0 0 := .of (k := 1) (by kernel_rfl)
theorem fl_190_1 : FieldIs P 190 1 2 := .of (k := 7) (by kernel_rfl)
theorem pl_190 : PlacesAre P 190 #[(0, 2), (2, 8)] := .of (by kernel_rfl)
theorem zr_193 : ZeroIs P 193 (.agg #[.int .u32 0, .int .u32 0, .int .u32 0, .int .u32 0, .int .u32 0, .int .u32 0, .int .u32 0, .int .u32 0, .int .u32 0, .int .u32 0, .int .u32 0, .int .u32 0, .int .u32 0, .int .u32 0, .int .u32 0, .int .u32 0, .int .u32 0, .int .u32 0, .int .u32 0, .int .u32 0, .int .u32 0, .int .u32 0, .int .u32 0, .int .u32 0, .int .u32 0, .int .u32 0, .int .u32 0, .int .u32 0, .int .u32 0, .int .u32 0, .int .u32 0, .int .u32 0, .int .u32 0, .int .u32 0, .int .u32 0, .int .u32 0, .int .u32 0, .int .u32 0, .int .u32 0, .int .u32 0, .int .u32 0, .int .u32 0, .int .u32 0, .int .u32 0, .int .u32 0, .int .u32 0, .int .u32 0, .int .u32 0, .int .u32 0, .int .u32 0, .int .u32 0, .int .u32 0, .int .u32 0, .int .u32 0, .int .u32 0, .int .u32 0, .int .u32 0, .int .u32 0, .int .u32 0, .int .u32 0, .int .u32 0, .int .u32 0, .int .u32 0, .int .u32 0]) := by unfold ZeroIs; kernel_rfl
theorem ty_193 : P.underlying 193 = some (.array 64 37) := by kernel_rfl
theorem one_195 : OneT P 195 false := by unfold OneT; kernel_rfl
theorem sz_195 : SizeIs P 195 80 := by unfold SizeIs; kernel_rfl
theorem zr_195 : ZeroIs P 195 (.agg #[.int .u64 0, .int .u64 0, .int .u64 0, .int .u64 0, .int .u64 0, .int .u64 0, .int .u64 0, .int .u64 0, .int .u64 0, .int .u64 0, .int .u64 0, .int .u64 0, .int .u64 0, .int .u64 0, .int .u64 0, .int .u64 0, .int .u64 0, .int .u64 0, .int .u64 0, .int .u64 0, .int .u64 0, .int .u64 0, .int .u64 0, .int .u64 0, .int .u64 0, .int .u64 0, .int .u64 0, .int .u64 0, .int .u64 0, .int .u64 0, .int .u64 0, .int .u64 0, .int .u64 0, .int .u64 0, .int .u64 0, .int .u64 0, .int .u64 0, .int .u64 0, .int .u64 0, .int .u64 0, .int .u64 0, .int .u64 0, .int .u64 0, .int .u64 0, .int .u64 0, .int .u64 0, .int .u64 0, .int .u64 0, .int .u64 0, .int .u64 0, .int .u64 0, .int .u64 0, .int .u64 0, .int .u64 0, .int .u64 0, .int .u64 0, .int .u64 0, .int .u64 0, .int .u64 0, .int .u64 0, .int .u64 0, .int .u64 0, .int .u64 0, .int .u64 0, .int .u64 0, .int .u64 0, .int .u64 0, .int .u64 0, .int .u64 0, .int .u64 0, .int .u64 0, .int .u64 0, .int .u64 0, .int .u64 0, .int .u64 0, .int .u64 0, .int .u64 0, .int .u64 0, .int .u64 0, .int .u64 0]) := by unfold ZeroIs; kernel_rfl
theorem ty_195 : P.underlying 195 = some (.array 80 79) := by kernel_rfl
theorem zh {f : FuncId} {fn : _} (h : P.funcs[f]? = some fn) (h1 : (fn.name == "runtime.NumGoroutine") = false := by kernel_rfl) (h2 : fn.body.isNone = false := by kernel_rfl) : Has P f := ⟨_, h, h1, h2⟩
theorem has_4 : Has P 4 := zh Go.Proofs.Tryz.func4
theorem has_5 : Has P 5 := zh Go.Proofs.Tryz.func5
theorem has_6 : Has P 6 := zh Go.Proofs.Tryz.func6
theorem has_7 : Has P 7 := zh Go.Proofs.Tryz.func7
theorem has_8 : Has P 8 := zh Go.Proofs.Tryz.func8
theorem has_9 : Has P 9 := zh Go.Proofs.Tryz.func9
theorem has_10 : Has P 10 := zh Go.Proofs.Tryz.func10
theorem has_11 : Has P 11 := zh Go.Proofs.Tryz.func11
theorem has_12 : Has P 12 := zh Go.Proofs.Tryz.func12
theorem has_13 : Has P 13 := zh Go.Proofs.Tryz.func13
theorem has_14 : Has P 14 := zh Go.Proofs.Tryz.func14
theorem has_15 : Has P 15 := zh Go.Proofs.Tryz.func15
theorem has_16 : Has P 16 := zh Go.Proofs.Tryz.func16
theorem has_17 : Has P 17 := zh Go.Proofs.Tryz.func17
theorem has_18 : Has P 18 := zh Go.Proofs.Tryz.func18
theorem has_19 : Has P 19 := zh Go.Proofs.Tryz.func19
theorem has_20 : Has P 20 := zh Go.Proofs.Tryz.func20
theorem has_21 : Has P 21 := zh Go.Proofs.Tryz.func21
theorem has_22 : Has P 22 := zh Go.Proofs.Tryz.func22
theorem has_23 : Has P 23 := zh Go.Proofs.Tryz.func23
theorem has_24 : Has P 24 := zh Go.Proofs.Tryz.func24
theorem has_25 : Has P 25 := zh Go.Proofs.Tryz.func25
theorem has_26 : Has P 26 := zh Go.Proofs.Tryz.func26
theorem has_27 : Has P 27 := zh Go.Proofs.Tryz.func27
theorem has_28 : Has P 28 := zh Go.Proofs.Tryz.func28
theorem has_29 : Has P 29 := zh Go.Proofs.Tryz.func29
theorem has_30 : Has P 30 := zh Go.Proofs.Tryz.func30
theorem has_31 : Has P 31 := zh Go.Proofs.Tryz.func31
theorem has_32 : Has P 32 := zh Go.Proofs.Tryz.func32
theorem has_33 : Has P 33 := zh Go.Proofs.Tryz.func33
theorem has_34 : Has P 34 := zh Go.Proofs.Tryz.func34
theorem has_35 : Has P 35 := zh Go.Proofs.Tryz.func35
theorem has_36 : Has P 36 := zh Go.Proofs.Tryz.func36
theorem has_37 : Has P 37 := zh Go.Proofs.Tryz.func37
theorem has_38 : Has P 38 := zh Go.Proofs.Tryz.func38
theorem has_39 : Has P 39 := zh Go.Proofs.Tryz.func39
theorem has_40 : Has P 40 := zh Go.Proofs.Tryz.func40
theorem has_41 : Has P 41 := zh Go.Proofs.Tryz.func41
theorem has_42 : Has P 42 := zh Go.Proofs.Tryz.func42
theorem has_43 : Has P 43 := zh Go.Proofs.Tryz.func43
theorem has_44 : Has P 44 := zh Go.Proofs.Tryz.func44
theorem has_45 : Has P 45 := zh Go.Proofs.Tryz.func45
theorem has_46 : Has P 46 := zh Go.Proofs.Tryz.func46
theorem has_47 : Has P 47 := zh Go.Proofs.Tryz.func47
theorem has_48 : Has P 48 := zh Go.Proofs.Tryz.func48
theorem has_49 : Has P 49 := zh Go.Proofs.Tryz.func49
theorem has_50 : Has P 50 := zh Go.Proofs.Tryz.func50
theorem has_51 : Has P 51 := zh Go.Proofs.Tryz.func51
theorem has_52 : Has P 52 := zh Go.Proofs.Tryz.func52
theorem has_53 : Has P 53 := zh Go.Proofs.Tryz.func53
theorem has_54 : Has P 54 := zh Go.Proofs.Tryz.func54
theorem has_55 : Has P 55 := zh Go.Proofs.Tryz.func55
theorem has_56 : Has P 56 := zh Go.Proofs.Tryz.func56
theorem has_57 : Has P 57 := zh Go.Proofs.Tryz.func57
theorem has_58 : Has P 58 := zh Go.Proofs.Tryz.func58
theorem has_60 : Has P 60 := zh Go.Proofs.Tryz.func60
theorem has_61 : Has P 61 := zh Go.Proofs.Tryz.func61
theorem has_62 : Has P 62 := zh Go.Proofs.Tryz.func62
theorem has_63 : Has P 63 := zh Go.Proofs.Tryz.func63
theorem has_64 : Has P 64 := zh Go.Proofs.Tryz.func64
theorem has_65 : Has P 65 := zh Go.Proofs.Tryz.func65
theorem has_66 : Has P 66 := zh Go.Proofs.Tryz.func66
theorem has_67 : Has P 67 := zh Go.Proofs.Tryz.func67
theorem has_68 : Has P 68 := zh Go.Proofs.Tryz.func68
theorem has_69 : Has P 69 := zh Go.Proofs.Tryz.func69
theorem has_72 : Has P 72 := zh Go.Proofs.Tryz.func72
theorem has_73 : Has P 73 := zh Go.Proofs.Tryz.func73
theorem has_79 : Has P 79 := zh Go.Proofs.Tryz.func79
theorem has_83 : Has P 83 := zh Go.Proofs.Tryz.func83
theorem has_84 : Has P 84 := zh Go.Proofs.Tryz.func84
theorem has_85 : Has P 85 := zh Go.Proofs.Tryz.func85
theorem has_86 : Has P 86 := zh Go.Proofs.Tryz.func86
theorem has_87 : Has P 87 := zh Go.Proofs.Tryz.func87
theorem has_88 : Has P 88 := zh Go.Proofs.Tryz.func88
theorem has_89 : Has P 89 := zh Go.Proofs.Tryz.func89
theorem has_90 : Has P 90 := zh Go.Proofs.Tryz.func90
theorem has_91 : Has P 91 := zh Go.Proofs.Tryz.func91
theorem has_92 : Has P 92 := zh Go.Proofs.Tryz.func92
theorem has_93 : Has P 93 := zh Go.Proofs.Tryz.func93
theorem has_94 : Has P 94 := zh Go.Proofs.Tryz.func94
theorem has_95 : Has P 95 := zh Go.Proofs.Tryz.func95
theorem has_96 : Has P 96 := zh Go.Proofs.Tryz.func96
theorem has_97 : Has P 97 := zh Go.Proofs.Tryz.func97
theorem has_98 : Has P 98 := zh Go.Proofs.Tryz.func98
theorem has_99 : Has P 99 := zh Go.Proofs.Tryz.func99
theorem has_100 : Has P 100 := zh Go.Proofs.Tryz.func100
theorem has_101 : Has P 101 := zh Go.Proofs.Tryz.func101
theorem has_102 : Has P 102 := zh Go.Proofs.Tryz.func102
theorem has_103 : Has P 103 := zh Go.Proofs.Tryz.func103
theorem has_104 : Has P 104 := zh Go.Proofs.Tryz.func104
theorem has_105 : Has P 105 := zh Go.Proofs.Tryz.func105
theorem has_106 : Has P 106 := zh Go.Proofs.Tryz.func106
theorem has_107 : Has P 107 := zh Go.Proofs.Tryz.func107
theorem has_108 : Has P 108 := zh Go.Proofs.Tryz.func108
theorem has_109 : Has P 109 := zh Go.Proofs.Tryz.func109
theorem has_110 : Has P 110 := zh Go.Proofs.Tryz.func110
theorem has_111 : Has P 111 := zh Go.Proofs.Tryz.func111
theorem has_112 : Has P 112 := zh Go.Proofs.Tryz.func112
theorem has_114 : Has P 114 := zh Go.Proofs.Tryz.func114
theorem has_120 : Has P 120 := zh Go.Proofs.Tryz.func120
theorem has_121 : Has P 121 := zh Go.Proofs.Tryz.func121
theorem has_122 : Has P 122 := zh Go.Proofs.Tryz.func122
theorem has_123 : Has P 123 := zh Go.Proofs.Tryz.func123
theorem has_125 : Has P 125 := zh Go.Proofs.Tryz.func125
theorem has_126 : Has P 126 := zh Go.Proofs.Tryz.func126
theorem has_127 : Has P 127 := zh Go.Proofs.Tryz.func127
theorem has_128 : Has P 128 := zh Go.Proofs.Tryz.func128
theorem has_130 : Has P 130 := zh Go.Proofs.Tryz.func130
theorem has_132 : Has P 132 := zh Go.Proofs.Tryz.func132
theorem has_133 : Has P 133 := zh Go.Proofs.Tryz.func133
end Go.Proofs.YtfjedhmffccgnaaGreatDoor.S
