/- Groups are written, and texts read as groups, as the document says. -/
import Derived.Test.YtdgbckfnamiebaaDoorD3
namespace Go.Proofs.YtdgbckfnamiebaaDoor.S
open Go.RowKit

theorem V1.eqU32q {C : Ctx} {e : Env} {L : List Blk} {dst : Option Tmp} {ty : TypeId} {pos : String} {after : Array Edge} {guard : Option (Nat × Bool)} {t el yt : TypeId} {x y : Operand} {n : Nat} {l m : List Nat} {r : Bool} (hT : C.P.underlying t = some (.array n el)) (hE : C.P.underlying el = some (.int .u32)) (hk : SizeIs C.P el 1) (hg : Program.eqGuardType C.P C.P.depth t = false)
    (hx : ev C.n e x = .agg (l.map u32V).toArray) (hy : ev C.n e y = .agg (m.map u32V).toArray) (hxl : l.length = n) (hyl : m.length = n) (h : decide (l = m) = r) : V1 C ⟨dst, .binOp .eql t x y yt, ty, pos, after, guard⟩ e L (.bool r) :=
  V1.eqA (xs := l.map fun n : Nat => (n : Int)) (ys := m.map fun n : Nat => (n : Int)) hT hE hk hg (by rw [hx, List.map_map]; rfl) (by rw [hy, List.map_map]; rfl) (by simpa using hxl) (by simpa using hyl) (by
    rw [← h, decide_eq_decide]
    constructor
    · intro h'
      exact (List.map_inj_right (fun a b hab => Int.ofNat.inj hab)).1 h'
    · intro h'; rw [h'])
theorem V1.neU32q {C : Ctx} {e : Env} {L : List Blk} {dst : Option Tmp} {ty : TypeId} {pos : String} {after : Array Edge} {guard : Option (Nat × Bool)} {t el yt : TypeId} {x y : Operand} {n : Nat} {l m : List Nat} {r : Bool} (hT : C.P.underlying t = some (.array n el)) (hE : C.P.underlying el = some (.int .u32)) (hk : SizeIs C.P el 1) (hg : Program.eqGuardType C.P C.P.depth t = false)
    (hx : ev C.n e x = .agg (l.map u32V).toArray) (hy : ev C.n e y = .agg (m.map u32V).toArray) (hxl : l.length = n) (hyl : m.length = n) (h : decide (l ≠ m) = r) : V1 C ⟨dst, .binOp .neq t x y yt, ty, pos, after, guard⟩ e L (.bool r) :=
  V1.neA (xs := l.map fun n : Nat => (n : Int)) (ys := m.map fun n : Nat => (n : Int)) hT hE hk hg (by rw [hx, List.map_map]; rfl) (by rw [hy, List.map_map]; rfl) (by simpa using hxl) (by simpa using hyl) (by
    rw [← h, decide_eq_decide]
    constructor
    · intro h' e'; exact h' (by rw [e'])
    · intro h' e'; exact h' ((List.map_inj_right (fun a b hab => Int.ofNat.inj hab)).1 e'))
theorem parse_l6 {ws : List (List UInt8)} {gs : List Nat} (h : parseW ws = some gs) : gs.length = 6 := by
  unfold parseW at h
  split at h
  · rename_i hc; obtain rfl := Option.some.inj h; rw [List.length_map]; exact hc.1
  · cases h

set_option maxRecDepth 100000 in
set_option maxHeartbeats 2000000 in
theorem SafetyTexts_any (g : List Nat) (l : List UInt8) (w : World) (hg : g.length = 6) (h32 : ∀ x ∈ g, x < 4294967296) (hl : l.length ≤ 2000000) : Fn P 3 [.agg (g.map u32V).toArray, .string (bstr l)] w [] (fun v _ => v = .bool true) := by
  refine Fn.of 36 [.tmp 4] Go.Proofs.Tryd.func3 rfl rfl rfl rfl ?_
  refine T.seq ?_
  refine T.region ?_
  refine TL.cons rfl (T1.boxN (vs := g.map u32V) 6 rfl (by rw [List.length_map]; exact hg) (fun b2 => ?_))
  refine TL.cons rfl (V1.t (V1.assign' (by (conv => lhs; whnf) <;> rfl)) ?_)
  refine TL.nil ?_
  refine T.seq ?_
  refine T.seq ?_
  refine T.region ?_
  refine TL.cons rfl (T1.call0 has_5 rfl (fun w hs => writes_any w) (fun v hv => ?_))
  subst hv
  refine TL.cons rfl (V1.t (V1.not rfl rfl) ?_)
  refine TL.nil ?_
  refine T.cond_f rfl ?_
  refine T.skip ?_
  refine T.seq ?_
  refine T.region ?_
  refine TL.cons rfl (V1.t (V1.move' (by (conv => lhs; whnf) <;> rfl)) ?_)
  refine TL.cons rfl (T1.call0 has_6 rfl (fun w hs => Parse_any l w hl) (fun v_ hv => ?_))
  obtain ⟨o, ho⟩ : ∃ o, o = parseW (words l) := ⟨_, rfl⟩
  rw [← ho] at hv
  rcases o with _ | gs
  ·
    obtain rfl : v_ = .tuple #[.agg #[.int .u32 0, .int .u32 0, .int .u32 0, .int .u32 0, .int .u32 0, .int .u32 0], .int .i64 110] := hv
    refine TL.cons rfl (V1.t (V1.move' (by (conv => lhs; whnf) <;> rfl)) ?_)
    refine TL.cons rfl (V1.t (V1.extract rfl (by rfl)) ?_)
    refine TL.cons rfl (V1.t (V1.extract rfl (by rfl)) ?_)
    refine TL.cons rfl (T1.allocN 6 zr_24 rfl (fun b5 => ?_))
    refine TL.cons rfl (T1.storeN (vs := ([.int .u32 0, .int .u32 0, .int .u32 0, .int .u32 0, .int .u32 0, .int .u32 0] : List Value)) rfl rfl sz_24 (ones rfl) (by repeat (first | exact Sub.one | apply Sub.there | apply Sub.far)) (by rfl) (by rfl) ?_)
    refine TL.cons rfl (V1.t (V1.assign' (by (conv => lhs; whnf) <;> rfl)) ?_)
    refine TL.nil ?_
    refine T.seq ?_
    refine T.region ?_
    refine TL.cons rfl (V1.t (V1.move' (by (conv => lhs; whnf) <;> rfl)) ?_)
    refine TL.cons rfl (T1.call0 has_7 rfl (fun w hs => refParse_any l w) (fun v_ hv => ?_))
    rw [← ho] at hv
    obtain rfl : v_ = .tuple #[.agg #[.int .u32 0, .int .u32 0, .int .u32 0, .int .u32 0, .int .u32 0, .int .u32 0], .int .i64 110] := hv
    refine TL.cons rfl (V1.t (V1.move' (by (conv => lhs; whnf) <;> rfl)) ?_)
    refine TL.cons rfl (V1.t (V1.extract rfl (by rfl)) ?_)
    refine TL.cons rfl (V1.t (V1.extract rfl (by rfl)) ?_)
    refine TL.cons rfl (T1.allocN 6 zr_23 rfl (fun b7 => ?_))
    refine TL.cons rfl (T1.storeN (vs := ([.int .u32 0, .int .u32 0, .int .u32 0, .int .u32 0, .int .u32 0, .int .u32 0] : List Value)) rfl rfl sz_23 (ones rfl) (by repeat (first | exact Sub.one | apply Sub.there | apply Sub.far)) (by rfl) (by rfl) ?_)
    refine TL.cons rfl (V1.t (V1.assign' (by (conv => lhs; whnf) <;> rfl)) ?_)
    refine TL.nil ?_
    refine T.seq ?_
    refine T.live (l := [(2, _), (5, _), (6, _), (7, _), (8, _)]) (.cons (by (conv => lhs; whnf) <;> rfl) (.cons (by (conv => lhs; whnf) <;> rfl) (.cons (by (conv => lhs; whnf) <;> rfl) (.cons (by (conv => lhs; whnf) <;> rfl) (.cons (by (conv => lhs; whnf) <;> rfl) .nil))))) (fun e_ => ?_)
    refine T.drawDet' mixed (by decide +kernel) ?_
    refine Det.cons 0 (ins := [(2, _)]) (.old (by (conv => lhs; whnf) <;> rfl) (by decide +kernel) .nil) (fun e_ => .inl ⟨rfl, V1.t (V1.loadN (vs := g.map u32V) one_24 sz_24 rfl (RdN.whole (by repeat (first | exact Find.here | assumption | apply Find.there | apply Find.far))) (by rw [List.length_map]; exact hg)) ⟨rfl, rfl⟩⟩) ?_
    refine Det.cons 1 (ins := [(21, _)]) (v := .string (bstr (textG g))) (.new 0 0 (by decide +kernel) rfl rfl .nil) (fun e_ => .inl ⟨rfl, ?_⟩) ?_
    · refine T1.call0 has_8 rfl (fun w hs => groupsString_any g w hg h32) (fun v hv => ?_)
      subst hv
      exact ⟨rfl, rfl⟩
    refine Det.cons 2 (ins := [(2, _)]) (.old (by (conv => lhs; whnf) <;> rfl) (by decide +kernel) .nil) (fun e_ => .inl ⟨rfl, V1.t (V1.loadN (vs := g.map u32V) one_24 sz_24 rfl (RdN.whole (by repeat (first | exact Find.here | assumption | apply Find.there | apply Find.far))) (by rw [List.length_map]; exact hg)) ⟨rfl, rfl⟩⟩) ?_
    refine Det.cons 3 (ins := [(23, _)]) (v := .string (bstr (textG g))) (.new 2 0 (by decide +kernel) rfl rfl .nil) (fun e_ => .inl ⟨rfl, ?_⟩) ?_
    · refine T1.call0 has_9 rfl (fun w hs => refText_any g w hg h32) (fun v hv => ?_)
      subst hv
      exact ⟨rfl, rfl⟩
    refine Det.cons 4 (ins := [(22, _), (24, _)]) (.new 1 2 (by decide +kernel) rfl rfl (.new 3 0 (by decide +kernel) rfl rfl .nil)) (fun e_ => .inl ⟨rfl, V1.t (V1.eqS (r := true) rfl rfl (by simp)) ⟨rfl, rfl⟩⟩) ?_
    refine Det.cons 5 (ins := [(25, _)]) (.new 4 0 (by decide +kernel) rfl rfl .nil) (fun e_ => .inl ⟨rfl, V1.t (V1.move' (by (conv => lhs; whnf) <;> rfl)) ⟨rfl, rfl⟩⟩) ?_
    refine Det.cons 6 (ins := [(5, _), (26, _)]) (.old (by (conv => lhs; whnf) <;> rfl) (by decide +kernel) (.new 5 0 (by decide +kernel) rfl rfl .nil)) (fun e_ => .inl ⟨rfl, V1.t (V1.loadN (vs := ([.int .u32 0, .int .u32 0, .int .u32 0, .int .u32 0, .int .u32 0, .int .u32 0] : List Value)) one_24 sz_24 rfl (RdN.whole (by repeat (first | exact Find.here | assumption | apply Find.there | apply Find.far))) (by rfl)) ⟨rfl, rfl⟩⟩) ?_
    refine Det.cons 7 (ins := [(7, _), (26, _)]) (.old (by (conv => lhs; whnf) <;> rfl) (by decide +kernel) (.new 5 1 (by decide +kernel) rfl rfl .nil)) (fun e_ => .inl ⟨rfl, V1.t (V1.loadN (vs := ([.int .u32 0, .int .u32 0, .int .u32 0, .int .u32 0, .int .u32 0, .int .u32 0] : List Value)) one_23 sz_23 rfl (RdN.whole (by repeat (first | exact Find.here | assumption | apply Find.there | apply Find.far))) (by rfl)) ⟨rfl, rfl⟩⟩) ?_
    refine Det.cons 8 (ins := [(26, _), (27, _), (28, _)]) (.new 5 2 (by decide +kernel) rfl rfl (.new 6 1 (by decide +kernel) rfl rfl (.new 7 0 (by decide +kernel) rfl rfl .nil))) (fun e_ => .inl ⟨rfl, V1.t (V1.eqU32q (l := ([0, 0, 0, 0, 0, 0] : List Nat)) (m := ([0, 0, 0, 0, 0, 0] : List Nat)) (r := true) ty_23 ty_22 sz_22 eg_23 rfl rfl rfl rfl (by simp)) ⟨rfl, rfl⟩⟩) ?_
    refine Det.cons 9 (ins := [(26, _), (29, _)]) (.new 5 3 (by decide +kernel) rfl rfl (.new 8 0 (by decide +kernel) rfl rfl .nil)) (fun e_ => .inl ⟨rfl, V1.t (V1.pick rfl (by (conv => lhs; whnf) <;> rfl)) ⟨rfl, rfl⟩⟩) ?_
    refine Det.cons 10 (ins := [(30, _)]) (.new 9 0 (by decide +kernel) rfl rfl .nil) (fun e_ => .inl ⟨rfl, V1.t (V1.move' (by (conv => lhs; whnf) <;> rfl)) ⟨rfl, rfl⟩⟩) ?_
    refine Det.cons 11 (ins := [(6, _), (31, _)]) (.old (by (conv => lhs; whnf) <;> rfl) (by decide +kernel) (.new 10 0 (by decide +kernel) rfl rfl .nil)) (fun e_ => .inl ⟨rfl, V1.t (V1.move' (by (conv => lhs; whnf) <;> rfl)) ⟨rfl, rfl⟩⟩) ?_
    refine Det.cons 12 (ins := [(8, _), (31, _)]) (.old (by (conv => lhs; whnf) <;> rfl) (by decide +kernel) (.new 10 1 (by decide +kernel) rfl rfl .nil)) (fun e_ => .inl ⟨rfl, V1.t (V1.move' (by (conv => lhs; whnf) <;> rfl)) ⟨rfl, rfl⟩⟩) ?_
    refine Det.cons 13 (ins := [(31, _), (32, _), (33, _)]) (.new 10 2 (by decide +kernel) rfl rfl (.new 11 1 (by decide +kernel) rfl rfl (.new 12 0 (by decide +kernel) rfl rfl .nil))) (fun e_ => .inl ⟨rfl, V1.t (V1.eqI rfl rfl (decide_eq_true (by omega))) ⟨rfl, rfl⟩⟩) ?_
    refine Det.cons 14 (ins := [(31, _), (34, _)]) (.new 10 3 (by decide +kernel) rfl rfl (.new 13 0 (by decide +kernel) rfl rfl .nil)) (fun e_ => .inl ⟨rfl, V1.t (V1.pick rfl (by (conv => lhs; whnf) <;> rfl)) ⟨rfl, rfl⟩⟩) ?_
    refine Det.cons 15 (ins := [(35, _)]) (.new 14 0 (by decide +kernel) rfl rfl .nil) (fun e_ => .inl ⟨rfl, V1.t (V1.assign' (by (conv => lhs; whnf) <;> rfl)) ⟨rfl, rfl⟩⟩) ?_
    refine Det.nil 16 (l := [(4, _)]) (.new 15 0 (by decide +kernel) rfl rfl .nil) (fun e_ => ?_)
    refine T.ret ?_
    exact ⟨_, [], _, .cons (.tmp (by (conv => lhs; whnf) <;> rfl)) .nil, Take.nil, rfl⟩
  ·
    obtain rfl : v_ = .tuple #[.agg (gs.map u32V).toArray, .int .i64 0] := hv
    have hgs := parse_l6 ho.symm
    refine TL.cons rfl (V1.t (V1.move' (by (conv => lhs; whnf) <;> rfl)) ?_)
    refine TL.cons rfl (V1.t (V1.extract rfl (by rfl)) ?_)
    refine TL.cons rfl (V1.t (V1.extract rfl (by rfl)) ?_)
    refine TL.cons rfl (T1.allocN 6 zr_24 rfl (fun b5 => ?_))
    refine TL.cons rfl (T1.storeN (vs := gs.map u32V) rfl rfl sz_24 (ones_u32 _) (by repeat (first | exact Sub.one | apply Sub.there | apply Sub.far)) (by rw [List.length_map]; exact hgs) (by rw [List.length_map]; exact hgs) ?_)
    refine TL.cons rfl (V1.t (V1.assign' (by (conv => lhs; whnf) <;> rfl)) ?_)
    refine TL.nil ?_
    refine T.seq ?_
    refine T.region ?_
    refine TL.cons rfl (V1.t (V1.move' (by (conv => lhs; whnf) <;> rfl)) ?_)
    refine TL.cons rfl (T1.call0 has_7 rfl (fun w hs => refParse_any l w) (fun v_ hv => ?_))
    rw [← ho] at hv
    obtain rfl : v_ = .tuple #[.agg (gs.map u32V).toArray, .int .i64 0] := hv
    refine TL.cons rfl (V1.t (V1.move' (by (conv => lhs; whnf) <;> rfl)) ?_)
    refine TL.cons rfl (V1.t (V1.extract rfl (by rfl)) ?_)
    refine TL.cons rfl (V1.t (V1.extract rfl (by rfl)) ?_)
    refine TL.cons rfl (T1.allocN 6 zr_23 rfl (fun b7 => ?_))
    refine TL.cons rfl (T1.storeN (vs := gs.map u32V) rfl rfl sz_23 (ones_u32 _) (by repeat (first | exact Sub.one | apply Sub.there | apply Sub.far)) (by rw [List.length_map]; exact hgs) (by rw [List.length_map]; exact hgs) ?_)
    refine TL.cons rfl (V1.t (V1.assign' (by (conv => lhs; whnf) <;> rfl)) ?_)
    refine TL.nil ?_
    refine T.seq ?_
    refine T.live (l := [(2, _), (5, _), (6, _), (7, _), (8, _)]) (.cons (by (conv => lhs; whnf) <;> rfl) (.cons (by (conv => lhs; whnf) <;> rfl) (.cons (by (conv => lhs; whnf) <;> rfl) (.cons (by (conv => lhs; whnf) <;> rfl) (.cons (by (conv => lhs; whnf) <;> rfl) .nil))))) (fun e_ => ?_)
    refine T.drawDet' mixed (by decide +kernel) ?_
    refine Det.cons 0 (ins := [(2, _)]) (.old (by (conv => lhs; whnf) <;> rfl) (by decide +kernel) .nil) (fun e_ => .inl ⟨rfl, V1.t (V1.loadN (vs := g.map u32V) one_24 sz_24 rfl (RdN.whole (by repeat (first | exact Find.here | assumption | apply Find.there | apply Find.far))) (by rw [List.length_map]; exact hg)) ⟨rfl, rfl⟩⟩) ?_
    refine Det.cons 1 (ins := [(21, _)]) (v := .string (bstr (textG g))) (.new 0 0 (by decide +kernel) rfl rfl .nil) (fun e_ => .inl ⟨rfl, ?_⟩) ?_
    · refine T1.call0 has_8 rfl (fun w hs => groupsString_any g w hg h32) (fun v hv => ?_)
      subst hv
      exact ⟨rfl, rfl⟩
    refine Det.cons 2 (ins := [(2, _)]) (.old (by (conv => lhs; whnf) <;> rfl) (by decide +kernel) .nil) (fun e_ => .inl ⟨rfl, V1.t (V1.loadN (vs := g.map u32V) one_24 sz_24 rfl (RdN.whole (by repeat (first | exact Find.here | assumption | apply Find.there | apply Find.far))) (by rw [List.length_map]; exact hg)) ⟨rfl, rfl⟩⟩) ?_
    refine Det.cons 3 (ins := [(23, _)]) (v := .string (bstr (textG g))) (.new 2 0 (by decide +kernel) rfl rfl .nil) (fun e_ => .inl ⟨rfl, ?_⟩) ?_
    · refine T1.call0 has_9 rfl (fun w hs => refText_any g w hg h32) (fun v hv => ?_)
      subst hv
      exact ⟨rfl, rfl⟩
    refine Det.cons 4 (ins := [(22, _), (24, _)]) (.new 1 2 (by decide +kernel) rfl rfl (.new 3 0 (by decide +kernel) rfl rfl .nil)) (fun e_ => .inl ⟨rfl, V1.t (V1.eqS (r := true) rfl rfl (by simp)) ⟨rfl, rfl⟩⟩) ?_
    refine Det.cons 5 (ins := [(25, _)]) (.new 4 0 (by decide +kernel) rfl rfl .nil) (fun e_ => .inl ⟨rfl, V1.t (V1.move' (by (conv => lhs; whnf) <;> rfl)) ⟨rfl, rfl⟩⟩) ?_
    refine Det.cons 6 (ins := [(5, _), (26, _)]) (.old (by (conv => lhs; whnf) <;> rfl) (by decide +kernel) (.new 5 0 (by decide +kernel) rfl rfl .nil)) (fun e_ => .inl ⟨rfl, V1.t (V1.loadN (vs := gs.map u32V) one_24 sz_24 rfl (RdN.whole (by repeat (first | exact Find.here | assumption | apply Find.there | apply Find.far))) (by rw [List.length_map]; exact hgs)) ⟨rfl, rfl⟩⟩) ?_
    refine Det.cons 7 (ins := [(7, _), (26, _)]) (.old (by (conv => lhs; whnf) <;> rfl) (by decide +kernel) (.new 5 1 (by decide +kernel) rfl rfl .nil)) (fun e_ => .inl ⟨rfl, V1.t (V1.loadN (vs := gs.map u32V) one_23 sz_23 rfl (RdN.whole (by repeat (first | exact Find.here | assumption | apply Find.there | apply Find.far))) (by rw [List.length_map]; exact hgs)) ⟨rfl, rfl⟩⟩) ?_
    refine Det.cons 8 (ins := [(26, _), (27, _), (28, _)]) (.new 5 2 (by decide +kernel) rfl rfl (.new 6 1 (by decide +kernel) rfl rfl (.new 7 0 (by decide +kernel) rfl rfl .nil))) (fun e_ => .inl ⟨rfl, V1.t (V1.eqU32q (l := gs) (m := gs) (r := true) ty_23 ty_22 sz_22 eg_23 rfl rfl hgs hgs (by simp)) ⟨rfl, rfl⟩⟩) ?_
    refine Det.cons 9 (ins := [(26, _), (29, _)]) (.new 5 3 (by decide +kernel) rfl rfl (.new 8 0 (by decide +kernel) rfl rfl .nil)) (fun e_ => .inl ⟨rfl, V1.t (V1.pick rfl (by (conv => lhs; whnf) <;> rfl)) ⟨rfl, rfl⟩⟩) ?_
    refine Det.cons 10 (ins := [(30, _)]) (.new 9 0 (by decide +kernel) rfl rfl .nil) (fun e_ => .inl ⟨rfl, V1.t (V1.move' (by (conv => lhs; whnf) <;> rfl)) ⟨rfl, rfl⟩⟩) ?_
    refine Det.cons 11 (ins := [(6, _), (31, _)]) (.old (by (conv => lhs; whnf) <;> rfl) (by decide +kernel) (.new 10 0 (by decide +kernel) rfl rfl .nil)) (fun e_ => .inl ⟨rfl, V1.t (V1.move' (by (conv => lhs; whnf) <;> rfl)) ⟨rfl, rfl⟩⟩) ?_
    refine Det.cons 12 (ins := [(8, _), (31, _)]) (.old (by (conv => lhs; whnf) <;> rfl) (by decide +kernel) (.new 10 1 (by decide +kernel) rfl rfl .nil)) (fun e_ => .inl ⟨rfl, V1.t (V1.move' (by (conv => lhs; whnf) <;> rfl)) ⟨rfl, rfl⟩⟩) ?_
    refine Det.cons 13 (ins := [(31, _), (32, _), (33, _)]) (.new 10 2 (by decide +kernel) rfl rfl (.new 11 1 (by decide +kernel) rfl rfl (.new 12 0 (by decide +kernel) rfl rfl .nil))) (fun e_ => .inl ⟨rfl, V1.t (V1.eqI rfl rfl (decide_eq_true (by omega))) ⟨rfl, rfl⟩⟩) ?_
    refine Det.cons 14 (ins := [(31, _), (34, _)]) (.new 10 3 (by decide +kernel) rfl rfl (.new 13 0 (by decide +kernel) rfl rfl .nil)) (fun e_ => .inl ⟨rfl, V1.t (V1.pick rfl (by (conv => lhs; whnf) <;> rfl)) ⟨rfl, rfl⟩⟩) ?_
    refine Det.cons 15 (ins := [(35, _)]) (.new 14 0 (by decide +kernel) rfl rfl .nil) (fun e_ => .inl ⟨rfl, V1.t (V1.assign' (by (conv => lhs; whnf) <;> rfl)) ⟨rfl, rfl⟩⟩) ?_
    refine Det.nil 16 (l := [(4, _)]) (.new 15 0 (by decide +kernel) rfl rfl .nil) (fun e_ => ?_)
    refine T.ret ?_
    exact ⟨_, [], _, .cons (.tmp (by (conv => lhs; whnf) <;> rfl)) .nil, Take.nil, rfl⟩

end Go.Proofs.YtdgbckfnamiebaaDoor.S
