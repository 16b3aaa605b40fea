/- The small functions of the frames: what each call hands back, for every argument. -/
import Derived.Test.YtgibhdjhgobdnaaTypes
import Derived.Test.YtgibhdjhgobdnaaFrSpec
namespace Go.Proofs.Ytgibhdjhgobdnaa.S
open Go.RowKit

def shapeV (k : Int) : Value :=
  match shp k with
  | some (a, b, c, d) => .tuple #[.agg #[.int .i64 a, .int .i64 b, .int .i64 c, .bool d], .int .i64 0]
  | none => .tuple #[.agg #[.int .i64 0, .int .i64 0, .int .i64 0, .bool false], .int .i64 110]
def shapeR (k : Int) : Value :=
  match shp k with
  | some (a, b, c, d) => .tuple #[.agg #[.int .i64 a, .int .i64 b, .int .i64 c, .int .i64 (if d then 1 else 0)], .bool true]
  | none => .tuple #[.agg #[.int .i64 0, .int .i64 0, .int .i64 0, .int .i64 0], .bool false]
def sizeV (k : Int) : Int :=
  match shp k with
  | some (a, b, c, d) => 1 + 32 * a + 4 * b + 64 * c + (if d then 4 else 0)
  | none => 0
/-- The kinds, one by one. -/
theorem kinds (k : Int) : k = 1 ∨ k = 2 ∨ k = 3 ∨ k = 4 ∨ k = 5 ∨ k = 6 ∨ k = 7 ∨ ((k < 1 ∨ 7 < k) ∧ shp k = none) := by
  by_cases h : 1 ≤ k ∧ k ≤ 7
  · omega
  · have h' : k < 1 ∨ 7 < k := by omega
    refine .inr (.inr (.inr (.inr (.inr (.inr (.inr ⟨h', ?_⟩))))))
    unfold shp
    repeat (rw [if_neg (by omega)])

theorem ShapeOf_any (k : Int) (w : World) : Fn P 12 [.int .i64 k] w [] (fun v Y => Y = [] ∧ v = shapeV k) := by
  refine Fn.of 27 [.cell 2 36, .tmp 3] Go.Proofs.Try.func12 rfl rfl rfl rfl ?_
  refine T.seq ?_
  refine T.region ?_
  refine TL.cons rfl (T1.allocN 4 zr_36 rfl (fun b2 => ?_))
  refine TL.cons rfl (V1.t (V1.assign' (by (conv => lhs; whnf) <;> rfl)) ?_)
  refine TL.nil ?_
  refine T.seq ?_
  refine T.seq ?_
  refine T.region ?_
  refine TL.cons rfl (V1.t (V1.move' (by (conv => lhs; whnf) <;> rfl)) ?_)
  refine TL.nil ?_
  refine T.block ?_
  refine T.seq ?_
  refine T.region ?_
  refine TL.cons rfl (T1.eqI_split rfl rfl (fun h2_0 => ?_) (fun h2_0 => ?_))
  ·
    refine TL.cons rfl (V1.t (V1.assign' (by (conv => lhs; whnf) <;> rfl)) ?_)
    refine TL.nil ?_
    refine T.cond_t rfl ?_
    refine T.seq ?_
    refine T.region ?_
    refine TL.cons rfl (V1.t (V1.buildF pl_36 zr_36 (.one rfl (by (conv => lhs; whnf) <;> rfl) rfl (.one rfl (by (conv => lhs; whnf) <;> rfl) rfl (.one rfl (by (conv => lhs; whnf) <;> rfl) rfl (.one rfl (by (conv => lhs; whnf) <;> rfl) rfl .nil)))) (by repeat (first | exact FillL.nil | exact SetN.done | apply SetN.here | apply SetN.there | apply FillL.cons))) ?_)
    refine TL.cons rfl (T1.storeN rfl rfl sz_36 (ones rfl) (by repeat (first | exact Sub.one | apply Sub.there | apply Sub.far)) (by rfl) (by rfl) ?_)
    refine TL.cons rfl (V1.t (V1.assign' (by (conv => lhs; whnf) <;> rfl)) ?_)
    refine TL.nil ?_
    refine T.ret ?_
    refine ⟨_, [], _, .cons (.cellN rfl one_36 sz_36 (RdN.whole (by repeat (first | exact Find.here | apply Find.there | apply Find.far))) (by rfl)) (.cons (.tmp (by (conv => lhs; whnf) <;> rfl)) .nil), Take.nil, rfl, ?_⟩
    simp_all [shapeV, shp, res1]
  ·
    refine TL.cons rfl (V1.t (V1.assign' (by (conv => lhs; whnf) <;> rfl)) ?_)
    refine TL.nil ?_
    refine T.cond_f rfl ?_
    refine T.seq ?_
    refine T.region ?_
    refine TL.cons rfl (T1.eqI_split rfl rfl (fun h4_0 => ?_) (fun h4_0 => ?_))
    ·
      refine TL.cons rfl (V1.t (V1.assign' (by (conv => lhs; whnf) <;> rfl)) ?_)
      refine TL.nil ?_
      refine T.cond_t rfl ?_
      refine T.seq ?_
      refine T.region ?_
      refine TL.cons rfl (V1.t (V1.buildF pl_36 zr_36 (.one rfl (by (conv => lhs; whnf) <;> rfl) rfl (.one rfl (by (conv => lhs; whnf) <;> rfl) rfl (.one rfl (by (conv => lhs; whnf) <;> rfl) rfl (.one rfl (by (conv => lhs; whnf) <;> rfl) rfl .nil)))) (by repeat (first | exact FillL.nil | exact SetN.done | apply SetN.here | apply SetN.there | apply FillL.cons))) ?_)
      refine TL.cons rfl (T1.storeN rfl rfl sz_36 (ones rfl) (by repeat (first | exact Sub.one | apply Sub.there | apply Sub.far)) (by rfl) (by rfl) ?_)
      refine TL.cons rfl (V1.t (V1.assign' (by (conv => lhs; whnf) <;> rfl)) ?_)
      refine TL.nil ?_
      refine T.ret ?_
      refine ⟨_, [], _, .cons (.cellN rfl one_36 sz_36 (RdN.whole (by repeat (first | exact Find.here | apply Find.there | apply Find.far))) (by rfl)) (.cons (.tmp (by (conv => lhs; whnf) <;> rfl)) .nil), Take.nil, rfl, ?_⟩
      simp_all [shapeV, shp, res1]
    ·
      refine TL.cons rfl (V1.t (V1.assign' (by (conv => lhs; whnf) <;> rfl)) ?_)
      refine TL.nil ?_
      refine T.cond_f rfl ?_
      refine T.seq ?_
      refine T.region ?_
      refine TL.cons rfl (T1.eqI_split rfl rfl (fun h6_0 => ?_) (fun h6_0 => ?_))
      ·
        refine TL.cons rfl (V1.t (V1.assign' (by (conv => lhs; whnf) <;> rfl)) ?_)
        refine TL.nil ?_
        refine T.cond_t rfl ?_
        refine T.seq ?_
        refine T.region ?_
        refine TL.cons rfl (V1.t (V1.buildF pl_36 zr_36 (.one rfl (by (conv => lhs; whnf) <;> rfl) rfl (.one rfl (by (conv => lhs; whnf) <;> rfl) rfl (.one rfl (by (conv => lhs; whnf) <;> rfl) rfl (.one rfl (by (conv => lhs; whnf) <;> rfl) rfl .nil)))) (by repeat (first | exact FillL.nil | exact SetN.done | apply SetN.here | apply SetN.there | apply FillL.cons))) ?_)
        refine TL.cons rfl (T1.storeN rfl rfl sz_36 (ones rfl) (by repeat (first | exact Sub.one | apply Sub.there | apply Sub.far)) (by rfl) (by rfl) ?_)
        refine TL.cons rfl (V1.t (V1.assign' (by (conv => lhs; whnf) <;> rfl)) ?_)
        refine TL.nil ?_
        refine T.ret ?_
        refine ⟨_, [], _, .cons (.cellN rfl one_36 sz_36 (RdN.whole (by repeat (first | exact Find.here | apply Find.there | apply Find.far))) (by rfl)) (.cons (.tmp (by (conv => lhs; whnf) <;> rfl)) .nil), Take.nil, rfl, ?_⟩
        simp_all [shapeV, shp, res1]
      ·
        refine TL.cons rfl (V1.t (V1.assign' (by (conv => lhs; whnf) <;> rfl)) ?_)
        refine TL.nil ?_
        refine T.cond_f rfl ?_
        refine T.seq ?_
        refine T.region ?_
        refine TL.cons rfl (T1.eqI_split rfl rfl (fun h8_0 => ?_) (fun h8_0 => ?_))
        ·
          refine TL.cons rfl (V1.t (V1.assign' (by (conv => lhs; whnf) <;> rfl)) ?_)
          refine TL.nil ?_
          refine T.cond_t rfl ?_
          refine T.seq ?_
          refine T.region ?_
          refine TL.cons rfl (V1.t (V1.buildF pl_36 zr_36 (.one rfl (by (conv => lhs; whnf) <;> rfl) rfl (.one rfl (by (conv => lhs; whnf) <;> rfl) rfl (.one rfl (by (conv => lhs; whnf) <;> rfl) rfl (.one rfl (by (conv => lhs; whnf) <;> rfl) rfl .nil)))) (by repeat (first | exact FillL.nil | exact SetN.done | apply SetN.here | apply SetN.there | apply FillL.cons))) ?_)
          refine TL.cons rfl (T1.storeN rfl rfl sz_36 (ones rfl) (by repeat (first | exact Sub.one | apply Sub.there | apply Sub.far)) (by rfl) (by rfl) ?_)
          refine TL.cons rfl (V1.t (V1.assign' (by (conv => lhs; whnf) <;> rfl)) ?_)
          refine TL.nil ?_
          refine T.ret ?_
          refine ⟨_, [], _, .cons (.cellN rfl one_36 sz_36 (RdN.whole (by repeat (first | exact Find.here | apply Find.there | apply Find.far))) (by rfl)) (.cons (.tmp (by (conv => lhs; whnf) <;> rfl)) .nil), Take.nil, rfl, ?_⟩
          simp_all [shapeV, shp, res1]
        ·
          refine TL.cons rfl (V1.t (V1.assign' (by (conv => lhs; whnf) <;> rfl)) ?_)
          refine TL.nil ?_
          refine T.cond_f rfl ?_
          refine T.seq ?_
          refine T.region ?_
          refine TL.cons rfl (T1.eqI_split rfl rfl (fun h10_0 => ?_) (fun h10_0 => ?_))
          ·
            refine TL.cons rfl (V1.t (V1.assign' (by (conv => lhs; whnf) <;> rfl)) ?_)
            refine TL.nil ?_
            refine T.cond_t rfl ?_
            refine T.seq ?_
            refine T.region ?_
            refine TL.cons rfl (V1.t (V1.buildF pl_36 zr_36 (.one rfl (by (conv => lhs; whnf) <;> rfl) rfl (.one rfl (by (conv => lhs; whnf) <;> rfl) rfl (.one rfl (by (conv => lhs; whnf) <;> rfl) rfl (.one rfl (by (conv => lhs; whnf) <;> rfl) rfl .nil)))) (by repeat (first | exact FillL.nil | exact SetN.done | apply SetN.here | apply SetN.there | apply FillL.cons))) ?_)
            refine TL.cons rfl (T1.storeN rfl rfl sz_36 (ones rfl) (by repeat (first | exact Sub.one | apply Sub.there | apply Sub.far)) (by rfl) (by rfl) ?_)
            refine TL.cons rfl (V1.t (V1.assign' (by (conv => lhs; whnf) <;> rfl)) ?_)
            refine TL.nil ?_
            refine T.ret ?_
            refine ⟨_, [], _, .cons (.cellN rfl one_36 sz_36 (RdN.whole (by repeat (first | exact Find.here | apply Find.there | apply Find.far))) (by rfl)) (.cons (.tmp (by (conv => lhs; whnf) <;> rfl)) .nil), Take.nil, rfl, ?_⟩
            simp_all [shapeV, shp, res1]
          ·
            refine TL.cons rfl (V1.t (V1.assign' (by (conv => lhs; whnf) <;> rfl)) ?_)
            refine TL.nil ?_
            refine T.cond_f rfl ?_
            refine T.seq ?_
            refine T.region ?_
            refine TL.cons rfl (T1.eqI_split rfl rfl (fun h12_0 => ?_) (fun h12_0 => ?_))
            ·
              refine TL.cons rfl (V1.t (V1.assign' (by (conv => lhs; whnf) <;> rfl)) ?_)
              refine TL.nil ?_
              refine T.cond_t rfl ?_
              refine T.seq ?_
              refine T.live (l := [(2, _)]) (.cons (by (conv => lhs; whnf) <;> rfl) .nil) (fun e_ => ?_)
              refine T.region ?_
              refine TL.cons rfl (V1.t (V1.buildF pl_36 zr_36 (.one rfl (by (conv => lhs; whnf) <;> rfl) rfl (.one rfl (by (conv => lhs; whnf) <;> rfl) rfl (.one rfl (by (conv => lhs; whnf) <;> rfl) rfl (.one rfl (by (conv => lhs; whnf) <;> rfl) rfl .nil)))) (by repeat (first | exact FillL.nil | exact SetN.done | apply SetN.here | apply SetN.there | apply FillL.cons))) ?_)
              refine TL.cons rfl (T1.storeN rfl rfl sz_36 (ones rfl) (by repeat (first | exact Sub.one | apply Sub.there | apply Sub.far)) (by rfl) (by rfl) ?_)
              refine TL.cons rfl (V1.t (V1.assign' (by (conv => lhs; whnf) <;> rfl)) ?_)
              refine TL.nil ?_
              refine T.ret ?_
              refine ⟨_, [], _, .cons (.cellN rfl one_36 sz_36 (RdN.whole (by repeat (first | exact Find.here | apply Find.there | apply Find.far))) (by rfl)) (.cons (.tmp (by (conv => lhs; whnf) <;> rfl)) .nil), Take.nil, rfl, ?_⟩
              simp_all [shapeV, shp, res1]
            ·
              refine TL.cons rfl (V1.t (V1.assign' (by (conv => lhs; whnf) <;> rfl)) ?_)
              refine TL.nil ?_
              refine T.cond_f rfl ?_
              refine T.seq ?_
              refine T.live (l := [(2, _), (4, _)]) (.cons (by (conv => lhs; whnf) <;> rfl) (.cons (by (conv => lhs; whnf) <;> rfl) .nil)) (fun e_ => ?_)
              refine T.region ?_
              refine TL.cons rfl (T1.eqI_split rfl rfl (fun h14_0 => ?_) (fun h14_0 => ?_))
              ·
                refine TL.cons rfl (V1.t (V1.assign' (by (conv => lhs; whnf) <;> rfl)) ?_)
                refine TL.nil ?_
                refine T.cond_t rfl ?_
                refine T.seq ?_
                refine T.region ?_
                refine TL.cons rfl (V1.t (V1.buildF pl_36 zr_36 (.one rfl (by (conv => lhs; whnf) <;> rfl) rfl (.one rfl (by (conv => lhs; whnf) <;> rfl) rfl (.one rfl (by (conv => lhs; whnf) <;> rfl) rfl (.one rfl (by (conv => lhs; whnf) <;> rfl) rfl .nil)))) (by repeat (first | exact FillL.nil | exact SetN.done | apply SetN.here | apply SetN.there | apply FillL.cons))) ?_)
                refine TL.cons rfl (T1.storeN rfl rfl sz_36 (ones rfl) (by repeat (first | exact Sub.one | apply Sub.there | apply Sub.far)) (by rfl) (by rfl) ?_)
                refine TL.cons rfl (V1.t (V1.assign' (by (conv => lhs; whnf) <;> rfl)) ?_)
                refine TL.nil ?_
                refine T.ret ?_
                refine ⟨_, [], _, .cons (.cellN rfl one_36 sz_36 (RdN.whole (by repeat (first | exact Find.here | apply Find.there | apply Find.far))) (by rfl)) (.cons (.tmp (by (conv => lhs; whnf) <;> rfl)) .nil), Take.nil, rfl, ?_⟩
                simp_all [shapeV, shp, res1]
              ·
                refine TL.cons rfl (V1.t (V1.assign' (by (conv => lhs; whnf) <;> rfl)) ?_)
                refine TL.nil ?_
                refine T.cond_f rfl ?_
                refine T.skip ?_
                refine T.seq ?_
                refine T.region ?_
                refine TL.cons rfl (V1.t (V1.build0 pl_36 zr_36) ?_)
                refine TL.cons rfl (T1.storeN rfl rfl sz_36 (ones rfl) (by repeat (first | exact Sub.one | apply Sub.there | apply Sub.far)) (by rfl) (by rfl) ?_)
                refine TL.cons rfl (V1.t (V1.assign' (by (conv => lhs; whnf) <;> rfl)) ?_)
                refine TL.nil ?_
                refine T.ret ?_
                refine ⟨_, [], _, .cons (.cellN rfl one_36 sz_36 (RdN.whole (by repeat (first | exact Find.here | apply Find.there | apply Find.far))) (by rfl)) (.cons (.tmp (by (conv => lhs; whnf) <;> rfl)) .nil), Take.nil, rfl, ?_⟩
                simp_all [shapeV, shp, res1]

/-- What ShapeOf hands back, as a struct and a number. -/
theorem shapeV_form (k : Int) : ∃ a b c : Nat, ∃ d : Bool, ∃ e : Int, shapeV k = .tuple #[.agg #[.int .i64 a, .int .i64 b, .int .i64 c, .bool d], .int .i64 e] ∧ a ≤ 4 ∧ b ≤ 3 ∧ c ≤ 1 ∧ (e = 0 ∨ e = 110) ∧
    ((e = 0 ∧ shp k = some (a, b, c, d)) ∨ (e = 110 ∧ shp k = none ∧ a = 0 ∧ b = 0 ∧ c = 0 ∧ d = false)) := by
  rcases kinds k with rfl | rfl | rfl | rfl | rfl | rfl | rfl | ⟨hk, hn⟩
  · exact ⟨4, 2, 1, false, 0, rfl, by omega, by omega, by omega, .inl rfl, .inl ⟨rfl, rfl⟩⟩
  · exact ⟨3, 2, 0, true, 0, rfl, by omega, by omega, by omega, .inl rfl, .inl ⟨rfl, rfl⟩⟩
  · exact ⟨1, 2, 0, true, 0, rfl, by omega, by omega, by omega, .inl rfl, .inl ⟨rfl, rfl⟩⟩
  · exact ⟨3, 2, 0, false, 0, rfl, by omega, by omega, by omega, .inl rfl, .inl ⟨rfl, rfl⟩⟩
  · exact ⟨1, 2, 1, true, 0, rfl, by omega, by omega, by omega, .inl rfl, .inl ⟨rfl, rfl⟩⟩
  · exact ⟨3, 3, 1, true, 0, rfl, by omega, by omega, by omega, .inl rfl, .inl ⟨rfl, rfl⟩⟩
  · exact ⟨1, 1, 0, true, 0, rfl, by omega, by omega, by omega, .inl rfl, .inl ⟨rfl, rfl⟩⟩
  · exact ⟨0, 0, 0, false, 110, by unfold shapeV; rw [hn]; rfl, by omega, by omega, by omega, .inr rfl, .inr ⟨rfl, hn, rfl, rfl, rfl, rfl⟩⟩
theorem shapeR_form (k : Int) : ∃ a b c d : Nat, ∃ ok : Bool, shapeR k = .tuple #[.agg #[.int .i64 a, .int .i64 b, .int .i64 c, .int .i64 d], .bool ok] ∧ a ≤ 4 ∧ b ≤ 3 ∧ c ≤ 1 ∧ (d = 0 ∨ d = 1) ∧
    ((ok = true ∧ shp k = some (a, b, c, d == 1)) ∨ (ok = false ∧ shp k = none ∧ a = 0 ∧ b = 0 ∧ c = 0 ∧ d = 0)) := by
  rcases kinds k with rfl | rfl | rfl | rfl | rfl | rfl | rfl | ⟨hk, hn⟩
  · exact ⟨4, 2, 1, 0, true, rfl, by omega, by omega, by omega, .inl rfl, .inl ⟨rfl, rfl⟩⟩
  · exact ⟨3, 2, 0, 1, true, rfl, by omega, by omega, by omega, .inr rfl, .inl ⟨rfl, rfl⟩⟩
  · exact ⟨1, 2, 0, 1, true, rfl, by omega, by omega, by omega, .inr rfl, .inl ⟨rfl, rfl⟩⟩
  · exact ⟨3, 2, 0, 0, true, rfl, by omega, by omega, by omega, .inl rfl, .inl ⟨rfl, rfl⟩⟩
  · exact ⟨1, 2, 1, 1, true, rfl, by omega, by omega, by omega, .inr rfl, .inl ⟨rfl, rfl⟩⟩
  · exact ⟨3, 3, 1, 1, true, rfl, by omega, by omega, by omega, .inr rfl, .inl ⟨rfl, rfl⟩⟩
  · exact ⟨1, 1, 0, 1, true, rfl, by omega, by omega, by omega, .inr rfl, .inl ⟨rfl, rfl⟩⟩
  · exact ⟨0, 0, 0, 0, false, by unfold shapeR; rw [hn]; rfl, by omega, by omega, by omega, .inl rfl, .inr ⟨rfl, hn, rfl, rfl, rfl, rfl⟩⟩

theorem Size_any (k : Int) (w : World) : Fn P 14 [.int .i64 k] w [] (fun v Y => Y = [] ∧ v = .int .i64 (sizeV k)) := by
  refine Fn.of 32 [.tmp 2] Go.Proofs.Try.func14 rfl rfl rfl rfl ?_
  refine T.seq ?_
  refine T.region ?_
  refine TL.cons rfl (V1.t (V1.assign' (by (conv => lhs; whnf) <;> rfl)) ?_)
  refine TL.nil ?_
  refine T.seq ?_
  refine T.region ?_
  refine TL.cons rfl (V1.t (V1.move' (by (conv => lhs; whnf) <;> rfl)) ?_)
  refine TL.cons rfl (T1.call0 has_12 rfl (fun w hs => ShapeOf_any _ w) (fun v hv => ?_))
  obtain ⟨sa, sb, sc, sd, se, hsv, ha, hb, hc, he, hsh⟩ := shapeV_form k
  rw [hsv] at hv
  subst hv
  refine TL.cons rfl (V1.t (V1.move' (by (conv => lhs; whnf) <;> rfl)) ?_)
  refine TL.cons rfl (V1.t (V1.extract rfl (by rfl)) ?_)
  refine TL.cons rfl (V1.t (V1.extract rfl (by rfl)) ?_)
  refine TL.cons rfl (T1.allocN 4 zr_36 rfl (fun b3 => ?_))
  refine TL.cons rfl (T1.storeN rfl rfl sz_36 (ones rfl) (by repeat (first | exact Sub.one | apply Sub.there | apply Sub.far)) (by rfl) (by rfl) ?_)
  refine TL.cons rfl (V1.t (V1.assign' (by (conv => lhs; whnf) <;> rfl)) ?_)
  refine TL.nil ?_
  refine T.seq ?_
  refine T.region ?_
  refine TL.cons rfl (V1.t (V1.fieldAddr fl_36_0 rfl) ?_)
  refine TL.cons rfl (V1.t (V1.load1 one_3 rfl (.own (by repeat (first | exact Find.here | apply Find.there | apply Find.far)) (by rfl))) ?_)
  refine TL.cons rfl (V1.t (V1.mul rfl rfl (wrap_i64 _ (by omega) (by omega))) ?_)
  refine TL.cons rfl (V1.t (V1.add rfl rfl (wrap_i64 _ (by omega) (by omega))) ?_)
  refine TL.cons rfl (V1.t (V1.fieldAddr fl_36_1 rfl) ?_)
  refine TL.cons rfl (V1.t (V1.load1 one_3 rfl (.own (by repeat (first | exact Find.here | apply Find.there | apply Find.far)) (by rfl))) ?_)
  refine TL.cons rfl (V1.t (V1.mul rfl rfl (wrap_i64 _ (by omega) (by omega))) ?_)
  refine TL.cons rfl (V1.t (V1.add rfl rfl (wrap_i64 _ (by omega) (by omega))) ?_)
  refine TL.cons rfl (V1.t (V1.fieldAddr fl_36_2 rfl) ?_)
  refine TL.cons rfl (V1.t (V1.load1 one_3 rfl (.own (by repeat (first | exact Find.here | apply Find.there | apply Find.far)) (by rfl))) ?_)
  refine TL.cons rfl (V1.t (V1.mul rfl rfl (wrap_i64 _ (by omega) (by omega))) ?_)
  refine TL.cons rfl (V1.t (V1.add rfl rfl (wrap_i64 _ (by omega) (by omega))) ?_)
  refine TL.cons rfl (V1.t (V1.assign' (by (conv => lhs; whnf) <;> rfl)) ?_)
  refine TL.nil ?_
  refine T.seq ?_
  refine T.block ?_
  refine T.seq ?_
  refine T.live (l := [(3, _), (4, _), (5, _)]) (.cons (by (conv => lhs; whnf) <;> rfl) (.cons (by (conv => lhs; whnf) <;> rfl) (.cons (by (conv => lhs; whnf) <;> rfl) .nil))) (fun e_ => ?_)
  refine T.region ?_
  refine TL.cons rfl (V1.t (V1.move' (by (conv => lhs; whnf) <;> rfl)) ?_)
  refine TL.cons rfl (T1.neI_split rfl rfl (fun h3_1 => ?_) (fun h3_1 => ?_))
  ·
    refine TL.cons rfl (V1.t (V1.assign' (by (conv => lhs; whnf) <;> rfl)) ?_)
    refine TL.nil ?_
    refine T.cond_t rfl ?_
    refine T.seq ?_
    refine T.region ?_
    refine TL.cons rfl (V1.t (V1.assign' (by (conv => lhs; whnf) <;> rfl)) ?_)
    refine TL.nil ?_
    refine T.ret ?_
    refine ⟨_, [], _, .cons (.tmp (by (conv => lhs; whnf) <;> rfl)) .nil, Take.nil, rfl, ?_⟩
    rcases hsh with ⟨h1, h2⟩ | ⟨h1, h2, h3, h4, h5, h6⟩ <;> simp_all [sizeV, res1]
  ·
    refine TL.cons rfl (V1.t (V1.assign' (by (conv => lhs; whnf) <;> rfl)) ?_)
    refine TL.nil ?_
    refine T.cond_f rfl ?_
    refine T.seq ?_
    refine T.region ?_
    refine TL.cons rfl (V1.t (V1.fieldAddr fl_36_3 rfl) ?_)
    refine TL.cons rfl (V1.t (V1.load1 one_4 rfl (.own (by repeat (first | exact Find.here | apply Find.there | apply Find.far)) (by rfl))) ?_)
    refine TL.cons rfl (V1.t (V1.assign' (by (conv => lhs; whnf) <;> rfl)) ?_)
    refine TL.nil ?_
    refine T.cond_split rfl (fun hc => ?_) (fun hc => ?_)
    ·
      refine T.region ?_
      refine TL.cons rfl (V1.t (V1.move' (by (conv => lhs; whnf) <;> rfl)) ?_)
      refine TL.cons rfl (V1.t (V1.add rfl rfl (wrap_i64 _ (by omega) (by omega))) ?_)
      refine TL.cons rfl (V1.t (V1.assign' (by (conv => lhs; whnf) <;> rfl)) ?_)
      refine TL.nil ?_
      refine T.seq ?_
      refine T.region ?_
      refine TL.cons rfl (V1.t (V1.move' (by (conv => lhs; whnf) <;> rfl)) ?_)
      refine TL.cons rfl (V1.t (V1.assign' (by (conv => lhs; whnf) <;> rfl)) ?_)
      refine TL.nil ?_
      refine T.ret ?_
      refine ⟨_, [], _, .cons (.tmp (by (conv => lhs; whnf) <;> rfl)) .nil, Take.nil, rfl, ?_⟩
      rcases hsh with ⟨h1, h2⟩ | ⟨h1, h2, h3, h4, h5, h6⟩ <;> simp_all [sizeV, res1]
    ·
      refine T.skip ?_
      refine T.seq ?_
      refine T.region ?_
      refine TL.cons rfl (V1.t (V1.move' (by (conv => lhs; whnf) <;> rfl)) ?_)
      refine TL.cons rfl (V1.t (V1.assign' (by (conv => lhs; whnf) <;> rfl)) ?_)
      refine TL.nil ?_
      refine T.ret ?_
      refine ⟨_, [], _, .cons (.tmp (by (conv => lhs; whnf) <;> rfl)) .nil, Take.nil, rfl, ?_⟩
      rcases hsh with ⟨h1, h2⟩ | ⟨h1, h2, h3, h4, h5, h6⟩ <;> simp_all [sizeV, res1]

theorem refShape_any (k : Int) (w : World) : Fn P 13 [.int .i64 k] w [] (fun v Y => Y = [] ∧ v = shapeR k) := by
  refine Fn.of 24 [.cell 2 39, .tmp 3] Go.Proofs.Try.func13 rfl rfl rfl rfl ?_
  refine T.seq ?_
  refine T.region ?_
  refine TL.cons rfl (T1.allocN 4 zr_39 rfl (fun b2 => ?_))
  refine TL.cons rfl (V1.t (V1.assign' (by (conv => lhs; whnf) <;> rfl)) ?_)
  refine TL.nil ?_
  refine T.seq ?_
  refine T.region ?_
  refine TL.cons rfl (V1.t (V1.buildA0 ty_39 sz_3 zr_39) ?_)
  refine TL.cons rfl (V1.t (V1.buildFA ty_39 sz_3 zr_39 (.one rfl (by (conv => lhs; whnf) <;> rfl) rfl (.one rfl (by (conv => lhs; whnf) <;> rfl) rfl (.one rfl (by (conv => lhs; whnf) <;> rfl) rfl (.one rfl (by (conv => lhs; whnf) <;> rfl) rfl .nil)))) (by repeat (first | exact FillL.nil | exact SetN.done | apply SetN.here | apply SetN.there | apply FillL.cons))) ?_)
  refine TL.cons rfl (V1.t (V1.buildFA ty_39 sz_3 zr_39 (.one rfl (by (conv => lhs; whnf) <;> rfl) rfl (.one rfl (by (conv => lhs; whnf) <;> rfl) rfl (.one rfl (by (conv => lhs; whnf) <;> rfl) rfl (.one rfl (by (conv => lhs; whnf) <;> rfl) rfl .nil)))) (by repeat (first | exact FillL.nil | exact SetN.done | apply SetN.here | apply SetN.there | apply FillL.cons))) ?_)
  refine TL.cons rfl (V1.t (V1.buildFA ty_39 sz_3 zr_39 (.one rfl (by (conv => lhs; whnf) <;> rfl) rfl (.one rfl (by (conv => lhs; whnf) <;> rfl) rfl (.one rfl (by (conv => lhs; whnf) <;> rfl) rfl (.one rfl (by (conv => lhs; whnf) <;> rfl) rfl .nil)))) (by repeat (first | exact FillL.nil | exact SetN.done | apply SetN.here | apply SetN.there | apply FillL.cons))) ?_)
  refine TL.cons rfl (V1.t (V1.buildFA ty_39 sz_3 zr_39 (.one rfl (by (conv => lhs; whnf) <;> rfl) rfl (.one rfl (by (conv => lhs; whnf) <;> rfl) rfl (.one rfl (by (conv => lhs; whnf) <;> rfl) rfl (.one rfl (by (conv => lhs; whnf) <;> rfl) rfl .nil)))) (by repeat (first | exact FillL.nil | exact SetN.done | apply SetN.here | apply SetN.there | apply FillL.cons))) ?_)
  refine TL.cons rfl (V1.t (V1.buildFA ty_39 sz_3 zr_39 (.one rfl (by (conv => lhs; whnf) <;> rfl) rfl (.one rfl (by (conv => lhs; whnf) <;> rfl) rfl (.one rfl (by (conv => lhs; whnf) <;> rfl) rfl (.one rfl (by (conv => lhs; whnf) <;> rfl) rfl .nil)))) (by repeat (first | exact FillL.nil | exact SetN.done | apply SetN.here | apply SetN.there | apply FillL.cons))) ?_)
  refine TL.cons rfl (V1.t (V1.buildFA ty_39 sz_3 zr_39 (.one rfl (by (conv => lhs; whnf) <;> rfl) rfl (.one rfl (by (conv => lhs; whnf) <;> rfl) rfl (.one rfl (by (conv => lhs; whnf) <;> rfl) rfl (.one rfl (by (conv => lhs; whnf) <;> rfl) rfl .nil)))) (by repeat (first | exact FillL.nil | exact SetN.done | apply SetN.here | apply SetN.there | apply FillL.cons))) ?_)
  refine TL.cons rfl (V1.t (V1.buildFA ty_39 sz_3 zr_39 (.one rfl (by (conv => lhs; whnf) <;> rfl) rfl (.one rfl (by (conv => lhs; whnf) <;> rfl) rfl (.one rfl (by (conv => lhs; whnf) <;> rfl) rfl (.one rfl (by (conv => lhs; whnf) <;> rfl) rfl .nil)))) (by repeat (first | exact FillL.nil | exact SetN.done | apply SetN.here | apply SetN.there | apply FillL.cons))) ?_)
  refine TL.cons rfl (V1.t (V1.buildFA ty_62 sz_39 zr_62 (.many rfl rfl rfl (.many rfl rfl rfl (.many rfl rfl rfl (.many rfl rfl rfl (.many rfl rfl rfl (.many rfl rfl rfl (.many rfl rfl rfl (.many rfl rfl rfl .nil)))))))) (by repeat (first | exact FillL.nil | exact SetN.done | apply SetN.here | apply SetN.there | apply FillL.cons))) ?_)
  refine TL.cons rfl (T1.allocN 32 zr_62 rfl (fun b4 => ?_))
  refine TL.cons rfl (T1.storeN rfl rfl sz_62 (ones rfl) (by repeat (first | exact Sub.one | apply Sub.there | apply Sub.far)) (by rfl) (by rfl) ?_)
  refine TL.nil ?_
  refine T.seq ?_
  refine T.seq ?_
  refine T.region ?_
  refine TL.cons rfl (V1.t (V1.move' (by (conv => lhs; whnf) <;> rfl)) ?_)
  refine TL.cons rfl (T1.ltI_split rfl rfl (fun h2_1 => ?_) (fun h2_1 => ?_))
  ·
    refine TL.cons rfl (V1.t (V1.move' (by (conv => lhs; whnf) <;> rfl)) ?_)
    refine TL.no rfl ?_
    refine TL.no rfl ?_
    refine TL.cons rfl (V1.t (V1.pick rfl (by (conv => lhs; whnf) <;> rfl)) ?_)
    refine TL.nil ?_
    refine T.cond_t rfl ?_
    refine T.seq ?_
    refine T.live (l := [(2, _)]) (.cons (by (conv => lhs; whnf) <;> rfl) .nil) (fun e_ => ?_)
    refine T.region ?_
    refine TL.cons rfl (V1.t (V1.buildA0 ty_39 sz_3 zr_39) ?_)
    refine TL.cons rfl (T1.storeN rfl rfl sz_39 (ones rfl) (by repeat (first | exact Sub.one | apply Sub.there | apply Sub.far)) (by rfl) (by rfl) ?_)
    refine TL.cons rfl (V1.t (V1.assign' (by (conv => lhs; whnf) <;> rfl)) ?_)
    refine TL.nil ?_
    refine T.ret ?_
    refine ⟨_, [], _, .cons (.cellN rfl one_39 sz_39 (RdN.whole (by repeat (first | exact Find.here | apply Find.there | apply Find.far))) (by first | rfl | (simp only [List.length_take, List.length_drop, List.length_cons, List.length_nil]; omega))) (.cons (.tmp (by (conv => lhs; whnf) <;> rfl)) .nil), Take.nil, rfl, ?_⟩
    rcases kinds k with rfl | rfl | rfl | rfl | rfl | rfl | rfl | ⟨hk, hn⟩ <;> first | (exfalso; omega) | rfl | simp_all [shapeR, shp, res1]
  ·
    refine TL.cons rfl (V1.t (V1.move' (by (conv => lhs; whnf) <;> rfl)) ?_)
    refine TL.cons rfl (V1.t (V1.move' (by (conv => lhs; whnf) <;> rfl)) ?_)
    refine TL.cons rfl (T1.gtI_split rfl rfl (fun h2_4 => ?_) (fun h2_4 => ?_))
    ·
      refine TL.cons rfl (V1.t (V1.pick rfl (by (conv => lhs; whnf) <;> rfl)) ?_)
      refine TL.nil ?_
      refine T.cond_t rfl ?_
      refine T.seq ?_
      refine T.live (l := [(2, _)]) (.cons (by (conv => lhs; whnf) <;> rfl) .nil) (fun e_ => ?_)
      refine T.region ?_
      refine TL.cons rfl (V1.t (V1.buildA0 ty_39 sz_3 zr_39) ?_)
      refine TL.cons rfl (T1.storeN rfl rfl sz_39 (ones rfl) (by repeat (first | exact Sub.one | apply Sub.there | apply Sub.far)) (by rfl) (by rfl) ?_)
      refine TL.cons rfl (V1.t (V1.assign' (by (conv => lhs; whnf) <;> rfl)) ?_)
      refine TL.nil ?_
      refine T.ret ?_
      refine ⟨_, [], _, .cons (.cellN rfl one_39 sz_39 (RdN.whole (by repeat (first | exact Find.here | apply Find.there | apply Find.far))) (by first | rfl | (simp only [List.length_take, List.length_drop, List.length_cons, List.length_nil]; omega))) (.cons (.tmp (by (conv => lhs; whnf) <;> rfl)) .nil), Take.nil, rfl, ?_⟩
      rcases kinds k with rfl | rfl | rfl | rfl | rfl | rfl | rfl | ⟨hk, hn⟩ <;> first | (exfalso; omega) | rfl | simp_all [shapeR, shp, res1]
    ·
      refine TL.cons rfl (V1.t (V1.pick rfl (by (conv => lhs; whnf) <;> rfl)) ?_)
      refine TL.nil ?_
      refine T.cond_f rfl ?_
      refine T.skip ?_
      refine T.seq ?_
      refine T.live (l := [(0, _), (2, _), (4, _)]) (.cons (by (conv => lhs; whnf) <;> rfl) (.cons (by (conv => lhs; whnf) <;> rfl) (.cons (by (conv => lhs; whnf) <;> rfl) .nil))) (fun e_ => ?_)
      refine T.region ?_
      refine TL.cons rfl (V1.t (V1.move' (by (conv => lhs; whnf) <;> rfl)) ?_)
      refine TL.cons rfl (V1.t (V1.indexAddrA ty_62 sz_39 rfl rfl (by omega) (by omega)) ?_)
      refine TL.cons rfl (V1.t (V1.loadN one_39 sz_39 rfl (RdN.mid (k := 4) (by repeat (first | exact Find.here | apply Find.there | apply Find.far))) (by simp only [List.length_take, List.length_drop, List.length_cons, List.length_nil]; omega)) ?_)
      refine TL.cons rfl (T1.storeN rfl rfl sz_39 (fun u hu => ones (vs := _) rfl u (List.mem_of_mem_drop (List.mem_of_mem_take hu))) (by repeat (first | exact Sub.one | apply Sub.there | apply Sub.far)) (by simp only [List.length_take, List.length_drop, List.length_cons, List.length_nil]; omega) (by simp only [List.length_take, List.length_drop, List.length_cons, List.length_nil]; omega) ?_)
      refine TL.cons rfl (V1.t (V1.assign' (by (conv => lhs; whnf) <;> rfl)) ?_)
      refine TL.nil ?_
      refine T.ret ?_
      refine ⟨_, [], _, .cons (.cellN rfl one_39 sz_39 (RdN.whole (by repeat (first | exact Find.here | apply Find.there | apply Find.far))) (by first | rfl | (simp only [List.length_take, List.length_drop, List.length_cons, List.length_nil]; omega))) (.cons (.tmp (by (conv => lhs; whnf) <;> rfl)) .nil), Take.nil, rfl, ?_⟩
      rcases kinds k with rfl | rfl | rfl | rfl | rfl | rfl | rfl | ⟨hk, hn⟩ <;> first | (exfalso; omega) | rfl | simp_all [shapeR, shp, res1]

end Go.Proofs.Ytgibhdjhgobdnaa.S
