/- The closed facts of this seat's program: its types and functions, as the kernel reckons them. Written by a program of the prover's own (gen.py). -/
import Derived.Test.YtlpkcbkflfbclaaGreatDoorOps6
import Derived.Test.YtlpkcbkflfbclaaGreatDoorProg
namespace Go.Proofs.YtlpkcbkflfbclaaGreatDoor.S
noncomputable abbrev P : Program := Go.Proofs.Tryz.prog
theorem mixed : P.follows .mixedOrders = true := by kernel_rfl
theorem one_3 : OneT P 3 true := by unfold OneT; kernel_rfl
theorem sz_3 : SizeIs P 3 1 := by unfold SizeIs; kernel_rfl
theorem zr_3 : ZeroIs P 3 (.int .i64 0) := by unfold ZeroIs; kernel_rfl
theorem one_4 : OneT P 4 true := by unfold OneT; kernel_rfl
theorem sz_4 : SizeIs P 4 1 := by unfold SizeIs; kernel_rfl
theorem ty_4 : P.underlying 4 = some .bool := by kernel_rfl
theorem sz_5 : SizeIs P 5 1 := by unfold SizeIs; kernel_rfl
theorem ce_5 : P.cellsOf 5 = 1 := by kernel_rfl
theorem by_5 : BytesIs P 5 1 := by unfold BytesIs; kernel_rfl
theorem zr_5 : ZeroIs P 5 (.int .u8 0) := by unfold ZeroIs; kernel_rfl
theorem one_9 : OneT P 9 true := by unfold OneT; kernel_rfl
theorem sz_9 : SizeIs P 9 1 := by unfold SizeIs; kernel_rfl
theorem ty_9 : P.underlying 9 = some .string := by kernel_rfl
theorem kd_9 : Kd P 9 := .inr ty_9
theorem one_22 : OneT P 22 true := by unfold OneT; kernel_rfl
theorem sz_22 : SizeIs P 22 1 := by unfold SizeIs; kernel_rfl
theorem ty_22 : P.underlying 22 = some (.slice 24) := by kernel_rfl
theorem kd_22 : Kd P 22 := .inl ⟨_, ty_22⟩
theorem one_24 : OneT P 24 false := by unfold OneT; kernel_rfl
theorem sz_24 : SizeIs P 24 3 := by unfold SizeIs; kernel_rfl
theorem by_24 : BytesIs P 24 48 := by unfold BytesIs; kernel_rfl
theorem zr_24 : ZeroIs P 24 (.agg #[.int .i64 0, .string ⟨#[]⟩, .slice none 0 0]) := by unfold ZeroIs; kernel_rfl
theorem fl_24_0 : FieldIs P 24 0 0 := .of (k := 0) (by kernel_rfl)
theorem fl_24_1 : FieldIs P 24 1 1 := .of (k := 0) (by kernel_rfl)
theorem fl_24_2 : FieldIs P 24 2 2 := .of (k := 0) (by kernel_rfl)
theorem pl_24 : PlacesAre P 24 #[(0, 1), (1, 1), (2, 1)] := .of (by kernel_rfl)
theorem one_27 : OneT P 27 true := by unfold OneT; kernel_rfl
theorem sz_27 : SizeIs P 27 1 := by unfold SizeIs; kernel_rfl
theorem ty_27 : P.underlying 27 = some (.slice 29) := by kernel_rfl
theorem kd_27 : Kd P 27 := .inl ⟨_, ty_27⟩
theorem one_29 : OneT P 29 false := by unfold OneT; kernel_rfl
theorem sz_29 : SizeIs P 29 3 := by unfold SizeIs; kernel_rfl
theorem by_29 : BytesIs P 29 48 := by unfold BytesIs; kernel_rfl
theorem zr_29 : ZeroIs P 29 (.agg #[.int .i64 0, .string ⟨#[]⟩, .slice none 0 0]) := by unfold ZeroIs; kernel_rfl
theorem fl_29_0 : FieldIs P 29 0 0 := .of (k := 0) (by kernel_rfl)
theorem fl_29_1 : FieldIs P 29 1 1 := .of (k := 0) (by kernel_rfl)
theorem fl_29_2 : FieldIs P 29 2 2 := .of (k := 0) (by kernel_rfl)
theorem pl_29 : PlacesAre P 29 #[(0, 1), (1, 1), (2, 1)] := .of (by kernel_rfl)
theorem one_32 : OneT P 32 true := by unfold OneT; kernel_rfl
theorem sz_32 : SizeIs P 32 1 := by unfold SizeIs; kernel_rfl
theorem zr_32 : ZeroIs P 32 (.int .i64 0) := by unfold ZeroIs; kernel_rfl
theorem ty_44 : P.underlying 44 = some (.slice 3) := by kernel_rfl
theorem one_80 : OneT P 80 true := by unfold OneT; kernel_rfl
theorem sz_80 : SizeIs P 80 1 := by unfold SizeIs; kernel_rfl
theorem ty_80 : P.underlying 80 = some (.pointer 83) := by kernel_rfl
theorem one_81 : OneT P 81 true := by unfold OneT; kernel_rfl
theorem sz_81 : SizeIs P 81 1 := by unfold SizeIs; kernel_rfl
theorem ty_81 : P.underlying 81 = some (.slice 5) := by kernel_rfl
theorem kd_81 : Kd P 81 := .inl ⟨_, ty_81⟩
theorem sz_83 : SizeIs P 83 2 := by unfold SizeIs; kernel_rfl
theorem zr_83 : ZeroIs P 83 (.agg #[.pointer none, .slice none 0 0]) := by unfold ZeroIs; kernel_rfl
theorem fl_83_0 : FieldIs P 83 0 0 := .of (k := 0) (by kernel_rfl)
theorem fl_83_1 : FieldIs P 83 1 1 := .of (k := 0) (by kernel_rfl)
theorem sz_111 : SizeIs P 111 0 := by unfold SizeIs; kernel_rfl
theorem zr_111 : ZeroIs P 111 (.agg #[]) := by unfold ZeroIs; kernel_rfl
theorem one_113 : OneT P 113 true := by unfold OneT; kernel_rfl
theorem zr_115 : ZeroIs P 115 (.agg #[.string ⟨#[]⟩, .int .i64 0, .int .i64 0]) := by unfold ZeroIs; kernel_rfl
theorem fl_115_0 : FieldIs P 115 0 0 := .of (k := 0) (by kernel_rfl)
theorem fl_115_1 : FieldIs P 115 1 1 := .of (k := 0) (by kernel_rfl)
theorem fl_115_2 : FieldIs P 115 2 2 := .of (k := 0) (by kernel_rfl)
theorem pl_115 : PlacesAre P 115 #[(0, 1), (1, 1), (2, 1)] := .of (by kernel_rfl)
theorem ty_127 : P.underlying 127 = some (.pointer 5) := by kernel_rfl
theorem one_171 : OneT P 171 false := by unfold OneT; kernel_rfl
theorem sz_171 : SizeIs P 171 256 := by unfold SizeIs; kernel_rfl
theorem zr_171 : ZeroIs P 171 (.agg #[.bool false, .bool false, .bool false, .bool false, .bool false, .bool false, .bool false, .bool false, .bool false, .bool false, .bool false, .bool false, .bool false, .bool false, .bool false, .bool false, .bool false, .bool false, .bool false, .bool false, .bool false, .bool false, .bool false, .bool false, .bool false, .bool false, .bool false, .bool false, .bool false, .bool false, .bool false, .bool false, .bool false, .bool false, .bool false, .bool false, .bool false, .bool false, .bool false, .bool false, .bool false, .bool false, .bool false, .bool false, .bool false, .bool false, .bool false, .bool false, .bool false, .bool false, .bool false, .bool false, .bool false, .bool false, .bool false, .bool false, .bool false, .bool false, .bool false, .bool false, .bool false, .bool false, .bool false, .bool false, .bool false, .bool false, .bool false, .bool false, .bool false, .bool false, .bool false, .bool false, .bool false, .bool false, .bool false, .bool false, .bool false, .bool false, .bool false, .bool false, .bool false, .bool false, .bool false, .bool false, .bool false, .bool false, .bool false, .bool false, .bool false, .bool false, .bool false, .bool false, .bool false, .bool false, .bool false, .bool false, .bool false, .bool false, .bool false, .bool false, .bool false, .bool false, .bool false, .bool false, .bool false, .bool false, .bool false, .bool false, .bool false, .bool false, .bool false, .bool false, .bool false, .bool false, .bool false, .bool false, .bool false, .bool false, .bool false, .bool false, .bool false, .bool false, .bool false, .bool false, .bool false, .bool false, .bool false, .bool false, .bool false, .bool false, .bool false, .bool false, .bool false, .bool false, .bool false, .bool false, .bool false, .bool false, .bool false, .bool false, .bool false, .bool false, .bool false, .bool false, .bool false, .bool false, .bool false, .bool false, .bool false, .bool false, .bool false, .bool false, .bool false, .bool false, .bool false, .bool false, .bool false, .bool false, .bool false, .bool false, .bool false, .bool false, .bool false, .bool false, .bool false, .bool false, .bool false, .bool false, .bool false, .bool false, .bool false, .bool false, .bool false, .bool false, .bool false, .bool false, .bool false, .bool false, .bool false, .bool false, .bool false, .bool false, .bool false, .bool false, .bool false, .bool false, .bool false, .bool false, .bool false, .bool false, .bool false, .bool false, .bool false, .bool false, .bool false, .bool false, .bool false, .bool false, .bool false, .bool false, .bool false, .bool false, .bool false, .bool false, .bool false, .bool false, .bool false, .bool false, .bool false, .bool false, .bool false, .bool false, .bool false, .bool false, .bool false, .bool false, .bool false, .bool false, .bool false, .bool false, .bool false, .bool false, .bool false, .bool false, .bool false, .bool false, .bool false, .bool false, .bool false, .bool false, .bool false, .bool false, .bool false, .bool false, .bool false, .bool false, .bool false, .bool false, .bool false, .bool false, .bool false, .bool false, .bool false, .bool false, .bool false, .bool false, .bool false, .bool false, .bool false, .bool false, .bool false, .bool false, .bool false, .bool false, .bool false, .bool false]) := by unfold ZeroIs; kernel_rfl
theorem ty_171 : P.underlying 171 = some (.array 256 4) := by kernel_rfl
theorem has_9 : Has P 9 := ⟨_, Go.Proofs.Tryz.func9, by kernel_rfl, by kernel_rfl⟩
theorem has_10 : Has P 10 := ⟨_, Go.Proofs.Tryz.func10, by kernel_rfl, by kernel_rfl⟩
theorem has_11 : Has P 11 := ⟨_, Go.Proofs.Tryz.func11, by kernel_rfl, by kernel_rfl⟩
theorem has_12 : Has P 12 := ⟨_, Go.Proofs.Tryz.func12, by kernel_rfl, by kernel_rfl⟩
theorem has_13 : Has P 13 := ⟨_, Go.Proofs.Tryz.func13, by kernel_rfl, by kernel_rfl⟩
theorem has_14 : Has P 14 := ⟨_, Go.Proofs.Tryz.func14, by kernel_rfl, by kernel_rfl⟩
theorem has_15 : Has P 15 := ⟨_, Go.Proofs.Tryz.func15, by kernel_rfl, by kernel_rfl⟩
theorem has_16 : Has P 16 := ⟨_, Go.Proofs.Tryz.func16, by kernel_rfl, by kernel_rfl⟩
theorem has_17 : Has P 17 := ⟨_, Go.Proofs.Tryz.func17, by kernel_rfl, by kernel_rfl⟩
theorem has_18 : Has P 18 := ⟨_, Go.Proofs.Tryz.func18, by kernel_rfl, by kernel_rfl⟩
theorem has_19 : Has P 19 := ⟨_, Go.Proofs.Tryz.func19, by kernel_rfl, by kernel_rfl⟩
theorem has_20 : Has P 20 := ⟨_, Go.Proofs.Tryz.func20, by kernel_rfl, by kernel_rfl⟩
theorem has_29 : Has P 29 := ⟨_, Go.Proofs.Tryz.func29, by kernel_rfl, by kernel_rfl⟩
theorem has_30 : Has P 30 := ⟨_, Go.Proofs.Tryz.func30, by kernel_rfl, by kernel_rfl⟩
theorem has_31 : Has P 31 := ⟨_, Go.Proofs.Tryz.func31, by kernel_rfl, by kernel_rfl⟩
theorem has_32 : Has P 32 := ⟨_, Go.Proofs.Tryz.func32, by kernel_rfl, by kernel_rfl⟩
theorem has_33 : Has P 33 := ⟨_, Go.Proofs.Tryz.func33, by kernel_rfl, by kernel_rfl⟩
theorem has_34 : Has P 34 := ⟨_, Go.Proofs.Tryz.func34, by kernel_rfl, by kernel_rfl⟩
theorem has_35 : Has P 35 := ⟨_, Go.Proofs.Tryz.func35, by kernel_rfl, by kernel_rfl⟩
theorem has_36 : Has P 36 := ⟨_, Go.Proofs.Tryz.func36, by kernel_rfl, by kernel_rfl⟩
theorem has_37 : Has P 37 := ⟨_, Go.Proofs.Tryz.func37, by kernel_rfl, by kernel_rfl⟩
theorem has_38 : Has P 38 := ⟨_, Go.Proofs.Tryz.func38, by kernel_rfl, by kernel_rfl⟩
theorem has_39 : Has P 39 := ⟨_, Go.Proofs.Tryz.func39, by kernel_rfl, by kernel_rfl⟩
theorem has_40 : Has P 40 := ⟨_, Go.Proofs.Tryz.func40, by kernel_rfl, by kernel_rfl⟩
theorem has_41 : Has P 41 := ⟨_, Go.Proofs.Tryz.func41, by kernel_rfl, by kernel_rfl⟩
theorem has_42 : Has P 42 := ⟨_, Go.Proofs.Tryz.func42, by kernel_rfl, by kernel_rfl⟩
theorem has_62 : Has P 62 := ⟨_, Go.Proofs.Tryz.func62, by kernel_rfl, by kernel_rfl⟩
theorem has_63 : Has P 63 := ⟨_, Go.Proofs.Tryz.func63, by kernel_rfl, by kernel_rfl⟩
theorem has_64 : Has P 64 := ⟨_, Go.Proofs.Tryz.func64, by kernel_rfl, by kernel_rfl⟩
theorem has_65 : Has P 65 := ⟨_, Go.Proofs.Tryz.func65, by kernel_rfl, by kernel_rfl⟩
theorem has_66 : Has P 66 := ⟨_, Go.Proofs.Tryz.func66, by kernel_rfl, by kernel_rfl⟩
theorem has_67 : Has P 67 := ⟨_, Go.Proofs.Tryz.func67, by kernel_rfl, by kernel_rfl⟩
theorem has_68 : Has P 68 := ⟨_, Go.Proofs.Tryz.func68, by kernel_rfl, by kernel_rfl⟩
theorem has_69 : Has P 69 := ⟨_, Go.Proofs.Tryz.func69, by kernel_rfl, by kernel_rfl⟩
theorem has_70 : Has P 70 := ⟨_, Go.Proofs.Tryz.func70, by kernel_rfl, by kernel_rfl⟩
theorem has_71 : Has P 71 := ⟨_, Go.Proofs.Tryz.func71, by kernel_rfl, by kernel_rfl⟩
theorem has_72 : Has P 72 := ⟨_, Go.Proofs.Tryz.func72, by kernel_rfl, by kernel_rfl⟩
theorem has_73 : Has P 73 := ⟨_, Go.Proofs.Tryz.func73, by kernel_rfl, by kernel_rfl⟩
theorem has_74 : Has P 74 := ⟨_, Go.Proofs.Tryz.func74, by kernel_rfl, by kernel_rfl⟩
theorem has_75 : Has P 75 := ⟨_, Go.Proofs.Tryz.func75, by kernel_rfl, by kernel_rfl⟩
theorem has_76 : Has P 76 := ⟨_, Go.Proofs.Tryz.func76, by kernel_rfl, by kernel_rfl⟩
theorem has_93 : Has P 93 := ⟨_, Go.Proofs.Tryz.func93, by kernel_rfl, by kernel_rfl⟩
theorem has_94 : Has P 94 := ⟨_, Go.Proofs.Tryz.func94, by kernel_rfl, by kernel_rfl⟩
theorem has_95 : Has P 95 := ⟨_, Go.Proofs.Tryz.func95, by kernel_rfl, by kernel_rfl⟩
theorem has_96 : Has P 96 := ⟨_, Go.Proofs.Tryz.func96, by kernel_rfl, by kernel_rfl⟩
theorem has_97 : Has P 97 := ⟨_, Go.Proofs.Tryz.func97, by kernel_rfl, by kernel_rfl⟩
theorem has_98 : Has P 98 := ⟨_, Go.Proofs.Tryz.func98, by kernel_rfl, by kernel_rfl⟩
theorem has_99 : Has P 99 := ⟨_, Go.Proofs.Tryz.func99, by kernel_rfl, by kernel_rfl⟩
theorem has_100 : Has P 100 := ⟨_, Go.Proofs.Tryz.func100, by kernel_rfl, by kernel_rfl⟩
theorem has_101 : Has P 101 := ⟨_, Go.Proofs.Tryz.func101, by kernel_rfl, by kernel_rfl⟩
theorem has_102 : Has P 102 := ⟨_, Go.Proofs.Tryz.func102, by kernel_rfl, by kernel_rfl⟩
theorem has_104 : Has P 104 := ⟨_, Go.Proofs.Tryz.func104, by kernel_rfl, by kernel_rfl⟩
theorem has_126 : Has P 126 := ⟨_, Go.Proofs.Tryz.func126, by kernel_rfl, by kernel_rfl⟩
theorem has_127 : Has P 127 := ⟨_, Go.Proofs.Tryz.func127, by kernel_rfl, by kernel_rfl⟩
theorem has_128 : Has P 128 := ⟨_, Go.Proofs.Tryz.func128, by kernel_rfl, by kernel_rfl⟩
theorem has_132 : Has P 132 := ⟨_, Go.Proofs.Tryz.func132, by kernel_rfl, by kernel_rfl⟩
theorem has_133 : Has P 133 := ⟨_, Go.Proofs.Tryz.func133, by kernel_rfl, by kernel_rfl⟩
theorem has_134 : Has P 134 := ⟨_, Go.Proofs.Tryz.func134, by kernel_rfl, by kernel_rfl⟩
theorem has_150 : Has P 150 := ⟨_, Go.Proofs.Tryz.func150, by kernel_rfl, by kernel_rfl⟩
theorem has_151 : Has P 151 := ⟨_, Go.Proofs.Tryz.func151, by kernel_rfl, by kernel_rfl⟩
end Go.Proofs.YtlpkcbkflfbclaaGreatDoor.S
