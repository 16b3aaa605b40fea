/- The small functions of the frames: what each call hands back, for every argument. -/
import Derived.Test.YtijijaobialncaaTypes
import Derived.Test.YtijijaobialncaaFrSpec
namespace Go.Proofs.Ytijijaobialncaa.S
open Go.RowKit

def shapeV (k : Int) : Value :=
  match shp k with
  | some (a, b, c, d) => .tuple #[.agg #[.int .i64 a, .int .i64 b, .int .i64 c, .bool d], .int .i64 0]
  | none => .tuple #[.agg #[.int .i64 0, .int .i64 0, .int .i64 0, .bool false], .int .i64 110]
def shapeR (k : Int) : Value :=
  match shp k with
  | some (a, b, c, d) => .tuple #[.agg #[.int .i64 a, .int .i64 b, .int .i64 c, .int .i64 (if d then 1 else 0)], .bool true]
  | none => .tuple #[.agg #[.int .i64 0, .int .i64 0, .int .i64 0, .int .i64 0], .bool false]
/-- The kinds, one by one. -/
theorem kinds (k : Int) : k = 1 ∨ k = 2 ∨ k = 3 ∨ k = 4 ∨ k = 5 ∨ k = 6 ∨ k = 7 ∨ ((k < 1 ∨ 7 < k) ∧ shp k = none) := by
  by_cases h : 1 ≤ k ∧ k ≤ 7
  · omega
  · have h' : k < 1 ∨ 7 < k := by omega
    refine .inr (.inr (.inr (.inr (.inr (.inr (.inr ⟨h', ?_⟩))))))
    unfold shp
    repeat (rw [if_neg (by omega)])

set_option maxRecDepth 100000 in
theorem ShapeOf_any (k : Int) (w : World) : Fn P 30 [.int .i64 k] w [] (fun v Y => Y = [] ∧ v = shapeV k) := by
  refine Fn.of 27 [.cell 2 81, .tmp 3] Go.Proofs.Try.func30 rfl rfl rfl rfl ?_
  refine T.seq ?_
  refine T.region ?_
  refine TL.cons rfl (T1.allocN 4 zr_81 rfl (fun b2 => ?_))
  refine TL.cons rfl (V1.t (V1.assign' z_B) ?_)
  refine TL.nil ?_
  refine T.seq ?_
  refine T.seq ?_
  refine T.region ?_
  refine TL.cons rfl (V1.t (V1.move' z_B) ?_)
  refine TL.nil ?_
  refine T.block ?_
  refine T.seq ?_
  refine T.region ?_
  refine TL.cons rfl (T1.eqI_split rfl rfl (fun h2_0 => ?_) (fun h2_0 => ?_))
  ·
    refine TL.cons rfl (V1.t (V1.assign' z_B) ?_)
    refine TL.nil ?_
    refine T.cond_t rfl ?_
    refine T.seq ?_
    refine T.region ?_
    refine TL.cons rfl (V1.t (V1.buildF pl_81 zr_81 (.one rfl z_B rfl (.one rfl z_B rfl (.one rfl z_B rfl (.one rfl z_B rfl .nil)))) z_I) ?_)
    refine TL.cons rfl (T1.storeN rfl rfl sz_81 (ones rfl) z_H (by rfl) (by rfl) ?_)
    refine TL.cons rfl (V1.t (V1.assign' z_B) ?_)
    refine TL.nil ?_
    refine T.ret ?_
    refine ⟨_, [], _, .cons (.cellN rfl one_81 sz_81 (RdN.whole z_D) (by rfl)) (.cons (.tmp z_B) .nil), Take.nil, rfl, ?_⟩
    simp_all [shapeV, shp, res1]
  ·
    refine TL.cons rfl (V1.t (V1.assign' z_B) ?_)
    refine TL.nil ?_
    refine T.cond_f rfl ?_
    refine T.seq ?_
    refine T.region ?_
    refine TL.cons rfl (T1.eqI_split rfl rfl (fun h4_0 => ?_) (fun h4_0 => ?_))
    ·
      refine TL.cons rfl (V1.t (V1.assign' z_B) ?_)
      refine TL.nil ?_
      refine T.cond_t rfl ?_
      refine T.seq ?_
      refine T.region ?_
      refine TL.cons rfl (V1.t (V1.buildF pl_81 zr_81 (.one rfl z_B rfl (.one rfl z_B rfl (.one rfl z_B rfl (.one rfl z_B rfl .nil)))) z_I) ?_)
      refine TL.cons rfl (T1.storeN rfl rfl sz_81 (ones rfl) z_H (by rfl) (by rfl) ?_)
      refine TL.cons rfl (V1.t (V1.assign' z_B) ?_)
      refine TL.nil ?_
      refine T.ret ?_
      refine ⟨_, [], _, .cons (.cellN rfl one_81 sz_81 (RdN.whole z_D) (by rfl)) (.cons (.tmp z_B) .nil), Take.nil, rfl, ?_⟩
      simp_all [shapeV, shp, res1]
    ·
      refine TL.cons rfl (V1.t (V1.assign' z_B) ?_)
      refine TL.nil ?_
      refine T.cond_f rfl ?_
      refine T.seq ?_
      refine T.region ?_
      refine TL.cons rfl (T1.eqI_split rfl rfl (fun h6_0 => ?_) (fun h6_0 => ?_))
      ·
        refine TL.cons rfl (V1.t (V1.assign' z_B) ?_)
        refine TL.nil ?_
        refine T.cond_t rfl ?_
        refine T.seq ?_
        refine T.region ?_
        refine TL.cons rfl (V1.t (V1.buildF pl_81 zr_81 (.one rfl z_B rfl (.one rfl z_B rfl (.one rfl z_B rfl (.one rfl z_B rfl .nil)))) z_I) ?_)
        refine TL.cons rfl (T1.storeN rfl rfl sz_81 (ones rfl) z_H (by rfl) (by rfl) ?_)
        refine TL.cons rfl (V1.t (V1.assign' z_B) ?_)
        refine TL.nil ?_
        refine T.ret ?_
        refine ⟨_, [], _, .cons (.cellN rfl one_81 sz_81 (RdN.whole z_D) (by rfl)) (.cons (.tmp z_B) .nil), Take.nil, rfl, ?_⟩
        simp_all [shapeV, shp, res1]
      ·
        refine TL.cons rfl (V1.t (V1.assign' z_B) ?_)
        refine TL.nil ?_
        refine T.cond_f rfl ?_
        refine T.seq ?_
        refine T.region ?_
        refine TL.cons rfl (T1.eqI_split rfl rfl (fun h8_0 => ?_) (fun h8_0 => ?_))
        ·
          refine TL.cons rfl (V1.t (V1.assign' z_B) ?_)
          refine TL.nil ?_
          refine T.cond_t rfl ?_
          refine T.seq ?_
          refine T.region ?_
          refine TL.cons rfl (V1.t (V1.buildF pl_81 zr_81 (.one rfl z_B rfl (.one rfl z_B rfl (.one rfl z_B rfl (.one rfl z_B rfl .nil)))) z_I) ?_)
          refine TL.cons rfl (T1.storeN rfl rfl sz_81 (ones rfl) z_H (by rfl) (by rfl) ?_)
          refine TL.cons rfl (V1.t (V1.assign' z_B) ?_)
          refine TL.nil ?_
          refine T.ret ?_
          refine ⟨_, [], _, .cons (.cellN rfl one_81 sz_81 (RdN.whole z_D) (by rfl)) (.cons (.tmp z_B) .nil), Take.nil, rfl, ?_⟩
          simp_all [shapeV, shp, res1]
        ·
          refine TL.cons rfl (V1.t (V1.assign' z_B) ?_)
          refine TL.nil ?_
          refine T.cond_f rfl ?_
          refine T.seq ?_
          refine T.region ?_
          refine TL.cons rfl (T1.eqI_split rfl rfl (fun h10_0 => ?_) (fun h10_0 => ?_))
          ·
            refine TL.cons rfl (V1.t (V1.assign' z_B) ?_)
            refine TL.nil ?_
            refine T.cond_t rfl ?_
            refine T.seq ?_
            refine T.region ?_
            refine TL.cons rfl (V1.t (V1.buildF pl_81 zr_81 (.one rfl z_B rfl (.one rfl z_B rfl (.one rfl z_B rfl (.one rfl z_B rfl .nil)))) z_I) ?_)
            refine TL.cons rfl (T1.storeN rfl rfl sz_81 (ones rfl) z_H (by rfl) (by rfl) ?_)
            refine TL.cons rfl (V1.t (V1.assign' z_B) ?_)
            refine TL.nil ?_
            refine T.ret ?_
            refine ⟨_, [], _, .cons (.cellN rfl one_81 sz_81 (RdN.whole z_D) (by rfl)) (.cons (.tmp z_B) .nil), Take.nil, rfl, ?_⟩
            simp_all [shapeV, shp, res1]
          ·
            refine TL.cons rfl (V1.t (V1.assign' z_B) ?_)
            refine TL.nil ?_
            refine T.cond_f rfl ?_
            refine T.seq ?_
            refine T.region ?_
            refine TL.cons rfl (T1.eqI_split rfl rfl (fun h12_0 => ?_) (fun h12_0 => ?_))
            ·
              refine TL.cons rfl (V1.t (V1.assign' z_B) ?_)
              refine TL.nil ?_
              refine T.cond_t rfl ?_
              refine T.seq ?_
              refine T.live (l := [(2, _)]) (.cons z_B .nil) (fun e_ => ?_)
              refine T.region ?_
              refine TL.cons rfl (V1.t (V1.buildF pl_81 zr_81 (.one rfl z_B rfl (.one rfl z_B rfl (.one rfl z_B rfl (.one rfl z_B rfl .nil)))) z_I) ?_)
              refine TL.cons rfl (T1.storeN rfl rfl sz_81 (ones rfl) z_H (by rfl) (by rfl) ?_)
              refine TL.cons rfl (V1.t (V1.assign' z_B) ?_)
              refine TL.nil ?_
              refine T.ret ?_
              refine ⟨_, [], _, .cons (.cellN rfl one_81 sz_81 (RdN.whole z_D) (by rfl)) (.cons (.tmp z_B) .nil), Take.nil, rfl, ?_⟩
              simp_all [shapeV, shp, res1]
            ·
              refine TL.cons rfl (V1.t (V1.assign' z_B) ?_)
              refine TL.nil ?_
              refine T.cond_f rfl ?_
              refine T.seq ?_
              refine T.live (l := [(2, _), (4, _)]) (.cons z_B (.cons z_B .nil)) (fun e_ => ?_)
              refine T.region ?_
              refine TL.cons rfl (T1.eqI_split rfl rfl (fun h14_0 => ?_) (fun h14_0 => ?_))
              ·
                refine TL.cons rfl (V1.t (V1.assign' z_B) ?_)
                refine TL.nil ?_
                refine T.cond_t rfl ?_
                refine T.seq ?_
                refine T.region ?_
                refine TL.cons rfl (V1.t (V1.buildF pl_81 zr_81 (.one rfl z_B rfl (.one rfl z_B rfl (.one rfl z_B rfl (.one rfl z_B rfl .nil)))) z_I) ?_)
                refine TL.cons rfl (T1.storeN rfl rfl sz_81 (ones rfl) z_H (by rfl) (by rfl) ?_)
                refine TL.cons rfl (V1.t (V1.assign' z_B) ?_)
                refine TL.nil ?_
                refine T.ret ?_
                refine ⟨_, [], _, .cons (.cellN rfl one_81 sz_81 (RdN.whole z_D) (by rfl)) (.cons (.tmp z_B) .nil), Take.nil, rfl, ?_⟩
                simp_all [shapeV, shp, res1]
              ·
                refine TL.cons rfl (V1.t (V1.assign' z_B) ?_)
                refine TL.nil ?_
                refine T.cond_f rfl ?_
                refine T.skip ?_
                refine T.seq ?_
                refine T.region ?_
                refine TL.cons rfl (V1.t (V1.build0 pl_81 zr_81) ?_)
                refine TL.cons rfl (T1.storeN rfl rfl sz_81 (ones rfl) z_H (by rfl) (by rfl) ?_)
                refine TL.cons rfl (V1.t (V1.assign' z_B) ?_)
                refine TL.nil ?_
                refine T.ret ?_
                refine ⟨_, [], _, .cons (.cellN rfl one_81 sz_81 (RdN.whole z_D) (by rfl)) (.cons (.tmp z_B) .nil), Take.nil, rfl, ?_⟩
                simp_all [shapeV, shp, res1]

/-- What ShapeOf hands back, as a struct and a number. -/
theorem shapeV_form (k : Int) : ∃ a b c : Nat, ∃ d : Bool, ∃ e : Int, shapeV k = .tuple #[.agg #[.int .i64 a, .int .i64 b, .int .i64 c, .bool d], .int .i64 e] ∧ a ≤ 4 ∧ b ≤ 3 ∧ c ≤ 1 ∧ (e = 0 ∨ e = 110) ∧
    ((e = 0 ∧ shp k = some (a, b, c, d)) ∨ (e = 110 ∧ shp k = none ∧ a = 0 ∧ b = 0 ∧ c = 0 ∧ d = false)) := by
  rcases kinds k with rfl | rfl | rfl | rfl | rfl | rfl | rfl | ⟨hk, hn⟩
  · exact ⟨4, 2, 1, false, 0, rfl, by omega, by omega, by omega, .inl rfl, .inl ⟨rfl, rfl⟩⟩
  · exact ⟨3, 2, 0, true, 0, rfl, by omega, by omega, by omega, .inl rfl, .inl ⟨rfl, rfl⟩⟩
  · exact ⟨1, 2, 0, true, 0, rfl, by omega, by omega, by omega, .inl rfl, .inl ⟨rfl, rfl⟩⟩
  · exact ⟨3, 2, 0, false, 0, rfl, by omega, by omega, by omega, .inl rfl, .inl ⟨rfl, rfl⟩⟩
  · exact ⟨1, 2, 1, true, 0, rfl, by omega, by omega, by omega, .inl rfl, .inl ⟨rfl, rfl⟩⟩
  · exact ⟨3, 3, 1, true, 0, rfl, by omega, by omega, by omega, .inl rfl, .inl ⟨rfl, rfl⟩⟩
  · exact ⟨1, 1, 0, true, 0, rfl, by omega, by omega, by omega, .inl rfl, .inl ⟨rfl, rfl⟩⟩
  · exact ⟨0, 0, 0, false, 110, by unfold shapeV; rw [hn]; rfl, by omega, by omega, by omega, .inr rfl, .inr ⟨rfl, hn, rfl, rfl, rfl, rfl⟩⟩
set_option maxRecDepth 100000 in
theorem refShape_any (k : Int) (w : World) : Fn P 55 [.int .i64 k] w [] (fun v Y => Y = [] ∧ v = shapeR k) := by
  refine Fn.of 24 [.cell 2 123, .tmp 3] Go.Proofs.Try.func55 rfl rfl rfl rfl ?_
  refine T.seq ?_
  refine T.region ?_
  refine TL.cons rfl (T1.allocN 4 zr_123 rfl (fun b2 => ?_))
  refine TL.cons rfl (V1.t (V1.assign' z_B) ?_)
  refine TL.nil ?_
  refine T.seq ?_
  refine T.region ?_
  refine TL.cons rfl (V1.t (V1.buildA0 ty_123 sz_3 zr_123) ?_)
  refine TL.cons rfl (V1.t (V1.buildFA ty_123 sz_3 zr_123 (.one rfl z_B rfl (.one rfl z_B rfl (.one rfl z_B rfl (.one rfl z_B rfl .nil)))) z_I) ?_)
  refine TL.cons rfl (V1.t (V1.buildFA ty_123 sz_3 zr_123 (.one rfl z_B rfl (.one rfl z_B rfl (.one rfl z_B rfl (.one rfl z_B rfl .nil)))) z_I) ?_)
  refine TL.cons rfl (V1.t (V1.buildFA ty_123 sz_3 zr_123 (.one rfl z_B rfl (.one rfl z_B rfl (.one rfl z_B rfl (.one rfl z_B rfl .nil)))) z_I) ?_)
  refine TL.cons rfl (V1.t (V1.buildFA ty_123 sz_3 zr_123 (.one rfl z_B rfl (.one rfl z_B rfl (.one rfl z_B rfl (.one rfl z_B rfl .nil)))) z_I) ?_)
  refine TL.cons rfl (V1.t (V1.buildFA ty_123 sz_3 zr_123 (.one rfl z_B rfl (.one rfl z_B rfl (.one rfl z_B rfl (.one rfl z_B rfl .nil)))) z_I) ?_)
  refine TL.cons rfl (V1.t (V1.buildFA ty_123 sz_3 zr_123 (.one rfl z_B rfl (.one rfl z_B rfl (.one rfl z_B rfl (.one rfl z_B rfl .nil)))) z_I) ?_)
  refine TL.cons rfl (V1.t (V1.buildFA ty_123 sz_3 zr_123 (.one rfl z_B rfl (.one rfl z_B rfl (.one rfl z_B rfl (.one rfl z_B rfl .nil)))) z_I) ?_)
  refine TL.cons rfl (V1.t (V1.buildFA ty_130 sz_123 zr_130 (.many rfl rfl rfl (.many rfl rfl rfl (.many rfl rfl rfl (.many rfl rfl rfl (.many rfl rfl rfl (.many rfl rfl rfl (.many rfl rfl rfl (.many rfl rfl rfl .nil)))))))) z_I) ?_)
  refine TL.cons rfl (T1.allocN 32 zr_130 rfl (fun b4 => ?_))
  refine TL.cons rfl (T1.storeN rfl rfl sz_130 (ones rfl) z_H (by rfl) (by rfl) ?_)
  refine TL.nil ?_
  refine T.seq ?_
  refine T.seq ?_
  refine T.region ?_
  refine TL.cons rfl (V1.t (V1.move' z_B) ?_)
  refine TL.cons rfl (T1.ltI_split rfl rfl (fun h2_1 => ?_) (fun h2_1 => ?_))
  ·
    refine TL.cons rfl (V1.t (V1.move' z_B) ?_)
    refine TL.no rfl ?_
    refine TL.no rfl ?_
    refine TL.cons rfl (V1.t (V1.pick rfl z_B) ?_)
    refine TL.nil ?_
    refine T.cond_t rfl ?_
    refine T.seq ?_
    refine T.live (l := [(2, _)]) (.cons z_B .nil) (fun e_ => ?_)
    refine T.region ?_
    refine TL.cons rfl (V1.t (V1.buildA0 ty_123 sz_3 zr_123) ?_)
    refine TL.cons rfl (T1.storeN rfl rfl sz_123 (ones rfl) z_H (by rfl) (by rfl) ?_)
    refine TL.cons rfl (V1.t (V1.assign' z_B) ?_)
    refine TL.nil ?_
    refine T.ret ?_
    refine ⟨_, [], _, .cons (.cellN rfl one_123 sz_123 (RdN.whole z_D) (by first | rfl | (simp only [List.length_take, List.length_drop, List.length_cons, List.length_nil]; omega))) (.cons (.tmp z_B) .nil), Take.nil, rfl, ?_⟩
    rcases kinds k with rfl | rfl | rfl | rfl | rfl | rfl | rfl | ⟨hk, hn⟩ <;> first | (exfalso; omega) | rfl | simp_all [shapeR, shp, res1]
  ·
    refine TL.cons rfl (V1.t (V1.move' z_B) ?_)
    refine TL.cons rfl (V1.t (V1.move' z_B) ?_)
    refine TL.cons rfl (T1.gtI_split rfl rfl (fun h2_4 => ?_) (fun h2_4 => ?_))
    ·
      refine TL.cons rfl (V1.t (V1.pick rfl z_B) ?_)
      refine TL.nil ?_
      refine T.cond_t rfl ?_
      refine T.seq ?_
      refine T.live (l := [(2, _)]) (.cons z_B .nil) (fun e_ => ?_)
      refine T.region ?_
      refine TL.cons rfl (V1.t (V1.buildA0 ty_123 sz_3 zr_123) ?_)
      refine TL.cons rfl (T1.storeN rfl rfl sz_123 (ones rfl) z_H (by rfl) (by rfl) ?_)
      refine TL.cons rfl (V1.t (V1.assign' z_B) ?_)
      refine TL.nil ?_
      refine T.ret ?_
      refine ⟨_, [], _, .cons (.cellN rfl one_123 sz_123 (RdN.whole z_D) (by first | rfl | (simp only [List.length_take, List.length_drop, List.length_cons, List.length_nil]; omega))) (.cons (.tmp z_B) .nil), Take.nil, rfl, ?_⟩
      rcases kinds k with rfl | rfl | rfl | rfl | rfl | rfl | rfl | ⟨hk, hn⟩ <;> first | (exfalso; omega) | rfl | simp_all [shapeR, shp, res1]
    ·
      refine TL.cons rfl (V1.t (V1.pick rfl z_B) ?_)
      refine TL.nil ?_
      refine T.cond_f rfl ?_
      refine T.skip ?_
      refine T.seq ?_
      refine T.live (l := [(0, _), (2, _), (4, _)]) (.cons z_B (.cons z_B (.cons z_B .nil))) (fun e_ => ?_)
      refine T.region ?_
      refine TL.cons rfl (V1.t (V1.move' z_B) ?_)
      refine TL.cons rfl (V1.t (V1.indexAddrA ty_130 sz_123 rfl rfl (by omega) (by omega)) ?_)
      refine TL.cons rfl (V1.t (V1.loadN one_123 sz_123 rfl (RdN.mid (k := 4) z_D) (by simp only [List.length_take, List.length_drop, List.length_cons, List.length_nil]; omega)) ?_)
      refine TL.cons rfl (T1.storeN rfl rfl sz_123 (fun u hu => ones (vs := _) rfl u (List.mem_of_mem_drop (List.mem_of_mem_take hu))) z_H (by simp only [List.length_take, List.length_drop, List.length_cons, List.length_nil]; omega) (by simp only [List.length_take, List.length_drop, List.length_cons, List.length_nil]; omega) ?_)
      refine TL.cons rfl (V1.t (V1.assign' z_B) ?_)
      refine TL.nil ?_
      refine T.ret ?_
      refine ⟨_, [], _, .cons (.cellN rfl one_123 sz_123 (RdN.whole z_D) (by first | rfl | (simp only [List.length_take, List.length_drop, List.length_cons, List.length_nil]; omega))) (.cons (.tmp z_B) .nil), Take.nil, rfl, ?_⟩
      rcases kinds k with rfl | rfl | rfl | rfl | rfl | rfl | rfl | ⟨hk, hn⟩ <;> first | (exfalso; omega) | rfl | simp_all [shapeR, shp, res1]

end Go.Proofs.Ytijijaobialncaa.S
