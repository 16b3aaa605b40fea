/- The closed facts of this seat's program: its types and functions, as the kernel reckons them. Written by a program of the prover's own (gen.py). -/
import Derived.Test.YtlpkcbkflfbclaaDoorOps6
import Derived.Test.YtlpkcbkflfbclaaDoorProg
namespace Go.Proofs.YtlpkcbkflfbclaaDoor.S
noncomputable abbrev P : Program := Go.Proofs.Tryd.prog
theorem mixed : P.follows .mixedOrders = true := by kernel_rfl
theorem one_3 : OneT P 3 true := by unfold OneT; kernel_rfl
theorem sz_3 : SizeIs P 3 1 := by unfold SizeIs; kernel_rfl
theorem zr_3 : ZeroIs P 3 (.int .i64 0) := by unfold ZeroIs; kernel_rfl
theorem one_4 : OneT P 4 true := by unfold OneT; kernel_rfl
theorem sz_4 : SizeIs P 4 1 := by unfold SizeIs; kernel_rfl
theorem ty_4 : P.underlying 4 = some .bool := by kernel_rfl
theorem sz_5 : SizeIs P 5 1 := by unfold SizeIs; kernel_rfl
theorem ce_5 : P.cellsOf 5 = 1 := by kernel_rfl
theorem by_5 : BytesIs P 5 1 := by unfold BytesIs; kernel_rfl
theorem zr_5 : ZeroIs P 5 (.int .u8 0) := by unfold ZeroIs; kernel_rfl
theorem one_9 : OneT P 9 true := by unfold OneT; kernel_rfl
theorem sz_9 : SizeIs P 9 1 := by unfold SizeIs; kernel_rfl
theorem ty_9 : P.underlying 9 = some .string := by kernel_rfl
theorem kd_9 : Kd P 9 := .inr ty_9
theorem one_23 : OneT P 23 true := by unfold OneT; kernel_rfl
theorem sz_23 : SizeIs P 23 1 := by unfold SizeIs; kernel_rfl
theorem ty_23 : P.underlying 23 = some (.slice 26) := by kernel_rfl
theorem kd_23 : Kd P 23 := .inl ⟨_, ty_23⟩
theorem one_26 : OneT P 26 false := by unfold OneT; kernel_rfl
theorem sz_26 : SizeIs P 26 3 := by unfold SizeIs; kernel_rfl
theorem by_26 : BytesIs P 26 48 := by unfold BytesIs; kernel_rfl
theorem zr_26 : ZeroIs P 26 (.agg #[.int .i64 0, .string ⟨#[]⟩, .slice none 0 0]) := by unfold ZeroIs; kernel_rfl
theorem fl_26_0 : FieldIs P 26 0 0 := .of (k := 0) (by kernel_rfl)
theorem fl_26_1 : FieldIs P 26 1 1 := .of (k := 0) (by kernel_rfl)
theorem fl_26_2 : FieldIs P 26 2 2 := .of (k := 0) (by kernel_rfl)
theorem pl_26 : PlacesAre P 26 #[(0, 1), (1, 1), (2, 1)] := .of (by kernel_rfl)
theorem one_32 : OneT P 32 true := by unfold OneT; kernel_rfl
theorem sz_32 : SizeIs P 32 1 := by unfold SizeIs; kernel_rfl
theorem zr_32 : ZeroIs P 32 (.int .i64 0) := by unfold ZeroIs; kernel_rfl
theorem sz_68 : SizeIs P 68 0 := by unfold SizeIs; kernel_rfl
theorem zr_68 : ZeroIs P 68 (.agg #[]) := by unfold ZeroIs; kernel_rfl
theorem one_70 : OneT P 70 true := by unfold OneT; kernel_rfl
theorem zr_72 : ZeroIs P 72 (.agg #[.string ⟨#[]⟩, .int .i64 0, .int .i64 0]) := by unfold ZeroIs; kernel_rfl
theorem fl_72_0 : FieldIs P 72 0 0 := .of (k := 0) (by kernel_rfl)
theorem fl_72_1 : FieldIs P 72 1 1 := .of (k := 0) (by kernel_rfl)
theorem fl_72_2 : FieldIs P 72 2 2 := .of (k := 0) (by kernel_rfl)
theorem pl_72 : PlacesAre P 72 #[(0, 1), (1, 1), (2, 1)] := .of (by kernel_rfl)
theorem one_74 : OneT P 74 true := by unfold OneT; kernel_rfl
theorem sz_74 : SizeIs P 74 1 := by unfold SizeIs; kernel_rfl
theorem ty_74 : P.underlying 74 = some (.pointer 77) := by kernel_rfl
theorem one_75 : OneT P 75 true := by unfold OneT; kernel_rfl
theorem sz_75 : SizeIs P 75 1 := by unfold SizeIs; kernel_rfl
theorem ty_75 : P.underlying 75 = some (.slice 5) := by kernel_rfl
theorem kd_75 : Kd P 75 := .inl ⟨_, ty_75⟩
theorem sz_77 : SizeIs P 77 2 := by unfold SizeIs; kernel_rfl
theorem zr_77 : ZeroIs P 77 (.agg #[.pointer none, .slice none 0 0]) := by unfold ZeroIs; kernel_rfl
theorem fl_77_0 : FieldIs P 77 0 0 := .of (k := 0) (by kernel_rfl)
theorem fl_77_1 : FieldIs P 77 1 1 := .of (k := 0) (by kernel_rfl)
theorem ty_84 : P.underlying 84 = some (.slice 3) := by kernel_rfl
theorem ty_99 : P.underlying 99 = some (.pointer 5) := by kernel_rfl
theorem one_126 : OneT P 126 false := by unfold OneT; kernel_rfl
theorem sz_126 : SizeIs P 126 256 := by unfold SizeIs; kernel_rfl
theorem zr_126 : ZeroIs P 126 (.agg #[.bool false, .bool false, .bool false, .bool false, .bool false, .bool false, .bool false, .bool false, .bool false, .bool false, .bool false, .bool false, .bool false, .bool false, .bool false, .bool false, .bool false, .bool false, .bool false, .bool false, .bool false, .bool false, .bool false, .bool false, .bool false, .bool false, .bool false, .bool false, .bool false, .bool false, .bool false, .bool false, .bool false, .bool false, .bool false, .bool false, .bool false, .bool false, .bool false, .bool false, .bool false, .bool false, .bool false, .bool false, .bool false, .bool false, .bool false, .bool false, .bool false, .bool false, .bool false, .bool false, .bool false, .bool false, .bool false, .bool false, .bool false, .bool false, .bool false, .bool false, .bool false, .bool false, .bool false, .bool false, .bool false, .bool false, .bool false, .bool false, .bool false, .bool false, .bool false, .bool false, .bool false, .bool false, .bool false, .bool false, .bool false, .bool false, .bool false, .bool false, .bool false, .bool false, .bool false, .bool false, .bool false, .bool false, .bool false, .bool false, .bool false, .bool false, .bool false, .bool false, .bool false, .bool false, .bool false, .bool false, .bool false, .bool false, .bool false, .bool false, .bool false, .bool false, .bool false, .bool false, .bool false, .bool false, .bool false, .bool false, .bool false, .bool false, .bool false, .bool false, .bool false, .bool false, .bool false, .bool false, .bool false, .bool false, .bool false, .bool false, .bool false, .bool false, .bool false, .bool false, .bool false, .bool false, .bool false, .bool false, .bool false, .bool false, .bool false, .bool false, .bool false, .bool false, .bool false, .bool false, .bool false, .bool false, .bool false, .bool false, .bool false, .bool false, .bool false, .bool false, .bool false, .bool false, .bool false, .bool false, .bool false, .bool false, .bool false, .bool false, .bool false, .bool false, .bool false, .bool false, .bool false, .bool false, .bool false, .bool false, .bool false, .bool false, .bool false, .bool false, .bool false, .bool false, .bool false, .bool false, .bool false, .bool false, .bool false, .bool false, .bool false, .bool false, .bool false, .bool false, .bool false, .bool false, .bool false, .bool false, .bool false, .bool false, .bool false, .bool false, .bool false, .bool false, .bool false, .bool false, .bool false, .bool false, .bool false, .bool false, .bool false, .bool false, .bool false, .bool false, .bool false, .bool false, .bool false, .bool false, .bool false, .bool false, .bool false, .bool false, .bool false, .bool false, .bool false, .bool false, .bool false, .bool false, .bool false, .bool false, .bool false, .bool false, .bool false, .bool false, .bool false, .bool false, .bool false, .bool false, .bool false, .bool false, .bool false, .bool false, .bool false, .bool false, .bool false, .bool false, .bool false, .bool false, .bool false, .bool false, .bool false, .bool false, .bool false, .bool false, .bool false, .bool false, .bool false, .bool false, .bool false, .bool false, .bool false, .bool false, .bool false, .bool false, .bool false, .bool false, .bool false, .bool false, .bool false, .bool false, .bool false, .bool false, .bool false, .bool false]) := by unfold ZeroIs; kernel_rfl
theorem ty_126 : P.underlying 126 = some (.array 256 4) := by kernel_rfl
theorem has_12 : Has P 12 := ⟨_, Go.Proofs.Tryd.func12, by kernel_rfl, by kernel_rfl⟩
theorem has_15 : Has P 15 := ⟨_, Go.Proofs.Tryd.func15, by kernel_rfl, by kernel_rfl⟩
theorem has_16 : Has P 16 := ⟨_, Go.Proofs.Tryd.func16, by kernel_rfl, by kernel_rfl⟩
theorem has_17 : Has P 17 := ⟨_, Go.Proofs.Tryd.func17, by kernel_rfl, by kernel_rfl⟩
theorem has_21 : Has P 21 := ⟨_, Go.Proofs.Tryd.func21, by kernel_rfl, by kernel_rfl⟩
theorem has_22 : Has P 22 := ⟨_, Go.Proofs.Tryd.func22, by kernel_rfl, by kernel_rfl⟩
theorem has_23 : Has P 23 := ⟨_, Go.Proofs.Tryd.func23, by kernel_rfl, by kernel_rfl⟩
theorem has_31 : Has P 31 := ⟨_, Go.Proofs.Tryd.func31, by kernel_rfl, by kernel_rfl⟩
theorem has_32 : Has P 32 := ⟨_, Go.Proofs.Tryd.func32, by kernel_rfl, by kernel_rfl⟩
theorem has_33 : Has P 33 := ⟨_, Go.Proofs.Tryd.func33, by kernel_rfl, by kernel_rfl⟩
theorem has_34 : Has P 34 := ⟨_, Go.Proofs.Tryd.func34, by kernel_rfl, by kernel_rfl⟩
theorem has_35 : Has P 35 := ⟨_, Go.Proofs.Tryd.func35, by kernel_rfl, by kernel_rfl⟩
theorem has_36 : Has P 36 := ⟨_, Go.Proofs.Tryd.func36, by kernel_rfl, by kernel_rfl⟩
theorem has_37 : Has P 37 := ⟨_, Go.Proofs.Tryd.func37, by kernel_rfl, by kernel_rfl⟩
theorem has_38 : Has P 38 := ⟨_, Go.Proofs.Tryd.func38, by kernel_rfl, by kernel_rfl⟩
theorem has_42 : Has P 42 := ⟨_, Go.Proofs.Tryd.func42, by kernel_rfl, by kernel_rfl⟩
theorem has_43 : Has P 43 := ⟨_, Go.Proofs.Tryd.func43, by kernel_rfl, by kernel_rfl⟩
theorem has_44 : Has P 44 := ⟨_, Go.Proofs.Tryd.func44, by kernel_rfl, by kernel_rfl⟩
theorem has_45 : Has P 45 := ⟨_, Go.Proofs.Tryd.func45, by kernel_rfl, by kernel_rfl⟩
theorem has_46 : Has P 46 := ⟨_, Go.Proofs.Tryd.func46, by kernel_rfl, by kernel_rfl⟩
theorem has_54 : Has P 54 := ⟨_, Go.Proofs.Tryd.func54, by kernel_rfl, by kernel_rfl⟩
theorem has_55 : Has P 55 := ⟨_, Go.Proofs.Tryd.func55, by kernel_rfl, by kernel_rfl⟩
theorem has_56 : Has P 56 := ⟨_, Go.Proofs.Tryd.func56, by kernel_rfl, by kernel_rfl⟩
theorem has_57 : Has P 57 := ⟨_, Go.Proofs.Tryd.func57, by kernel_rfl, by kernel_rfl⟩
theorem has_58 : Has P 58 := ⟨_, Go.Proofs.Tryd.func58, by kernel_rfl, by kernel_rfl⟩
theorem has_66 : Has P 66 := ⟨_, Go.Proofs.Tryd.func66, by kernel_rfl, by kernel_rfl⟩
theorem has_67 : Has P 67 := ⟨_, Go.Proofs.Tryd.func67, by kernel_rfl, by kernel_rfl⟩
theorem has_68 : Has P 68 := ⟨_, Go.Proofs.Tryd.func68, by kernel_rfl, by kernel_rfl⟩
theorem has_69 : Has P 69 := ⟨_, Go.Proofs.Tryd.func69, by kernel_rfl, by kernel_rfl⟩
theorem has_70 : Has P 70 := ⟨_, Go.Proofs.Tryd.func70, by kernel_rfl, by kernel_rfl⟩
theorem has_71 : Has P 71 := ⟨_, Go.Proofs.Tryd.func71, by kernel_rfl, by kernel_rfl⟩
theorem has_76 : Has P 76 := ⟨_, Go.Proofs.Tryd.func76, by kernel_rfl, by kernel_rfl⟩
theorem has_78 : Has P 78 := ⟨_, Go.Proofs.Tryd.func78, by kernel_rfl, by kernel_rfl⟩
theorem has_89 : Has P 89 := ⟨_, Go.Proofs.Tryd.func89, by kernel_rfl, by kernel_rfl⟩
theorem has_90 : Has P 90 := ⟨_, Go.Proofs.Tryd.func90, by kernel_rfl, by kernel_rfl⟩
theorem has_91 : Has P 91 := ⟨_, Go.Proofs.Tryd.func91, by kernel_rfl, by kernel_rfl⟩
theorem has_92 : Has P 92 := ⟨_, Go.Proofs.Tryd.func92, by kernel_rfl, by kernel_rfl⟩
theorem has_100 : Has P 100 := ⟨_, Go.Proofs.Tryd.func100, by kernel_rfl, by kernel_rfl⟩
theorem has_101 : Has P 101 := ⟨_, Go.Proofs.Tryd.func101, by kernel_rfl, by kernel_rfl⟩
theorem has_102 : Has P 102 := ⟨_, Go.Proofs.Tryd.func102, by kernel_rfl, by kernel_rfl⟩
theorem has_110 : Has P 110 := ⟨_, Go.Proofs.Tryd.func110, by kernel_rfl, by kernel_rfl⟩
theorem has_114 : Has P 114 := ⟨_, Go.Proofs.Tryd.func114, by kernel_rfl, by kernel_rfl⟩
end Go.Proofs.YtlpkcbkflfbclaaDoor.S
