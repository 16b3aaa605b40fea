/- Two texts in order; texts put together with something between. -/
import Derived.Test.YtdgbckfnamiebaaB3
import Derived.Test.YtdgbckfnamiebaaOpsD
namespace Go.Proofs.Ytdgbckfnamiebaa.S
open Go.RowKit

/-- Does a text stand ahead of another? -/
def ltB (a b : List UInt8) : Bool := Op.bytesLess (bstr a).toList (bstr b).toList
/-- A builder whose buffer may be there already. -/
def BG (b : Nat) (l : List UInt8) (X : List Blk) : Prop := ∃ p s Ls, (p = .pointer none ∨ p = .pointer (some ⟨b, 0, none⟩)) ∧ X = ⟨⟨b, some 56⟩, 0, [p, s], 2⟩ :: Ls ∧ SlG (some 5) s (l.map byteV) 1 Ls
theorem BB.bg {b : Nat} {l : List UInt8} {X : List Blk} (h : BB b l X) : BG b l X := by
  obtain ⟨p, s, Ls, h1, h2, h3, _⟩ := h
  exact ⟨p, s, Ls, h1, h2, h3⟩
theorem BG.bb {b : Nat} {l : List UInt8} {X : List Blk} (h : BG b l X) (h0 : l ≠ []) : BB b l X := by
  obtain ⟨p, s, Ls, h1, h2, h3⟩ := h
  exact ⟨p, s, Ls, h1, h2, h3, fun h => absurd h h0⟩

set_option maxRecDepth 100000 in
theorem isNaN_any (a : List UInt8) (w : World) : Fn P 61 [.string (bstr a)] w [] (fun v Y => Y = [] ∧ v = .bool false) := by
  refine Fn.of 6 [.tmp 2] Go.Proofs.Try.func61 rfl rfl rfl rfl ?_
  refine T.seq ?_
  refine T.region ?_
  refine TL.cons rfl (V1.t (V1.assign' (by (conv => lhs; whnf) <;> rfl)) ?_)
  refine TL.nil ?_
  refine T.seq ?_
  refine T.region ?_
  refine TL.cons rfl (V1.t (V1.move' (by (conv => lhs; whnf) <;> rfl)) ?_)
  refine TL.cons rfl (V1.t (V1.move' (by (conv => lhs; whnf) <;> rfl)) ?_)
  refine TL.cons rfl (V1.t (V1.neS (r := false) rfl rfl (by simp)) ?_)
  refine TL.cons rfl (V1.t (V1.assign' (by (conv => lhs; whnf) <;> rfl)) ?_)
  refine TL.nil ?_
  refine T.ret ?_
  exact ⟨_, [], _, .cons (.tmp (by (conv => lhs; whnf) <;> rfl)) .nil, Take.nil, rfl, rfl⟩

set_option maxRecDepth 100000 in
theorem Less_any (a b : List UInt8) (w : World) : Fn P 47 [.string (bstr a), .string (bstr b)] w [] (fun v Y => Y = [] ∧ v = .bool (ltB a b)) := by
  refine Fn.of 17 [.tmp 4] Go.Proofs.Try.func47 rfl rfl rfl rfl ?_
  refine T.seq ?_
  refine T.region ?_
  refine TL.cons rfl (V1.t (V1.assign' (by (conv => lhs; whnf) <;> rfl)) ?_)
  refine TL.nil ?_
  refine T.seq ?_
  refine T.region ?_
  refine TL.cons rfl (V1.t (V1.move' (by (conv => lhs; whnf) <;> rfl)) ?_)
  refine TL.cons rfl (T1.call0 has_61 rfl (fun w hs => isNaN_any a w) (fun v hv => ?_))
  subst hv
  refine TL.cons rfl (V1.t (V1.move' (by (conv => lhs; whnf) <;> rfl)) ?_)
  refine TL.no rfl ?_
  refine TL.no rfl ?_
  refine TL.no rfl ?_
  refine TL.cons rfl (V1.t (V1.pick rfl (by (conv => lhs; whnf) <;> rfl)) ?_)
  refine TL.cons rfl (V1.t (V1.move' (by (conv => lhs; whnf) <;> rfl)) ?_)
  refine TL.cons rfl (V1.t (V1.move' (by (conv => lhs; whnf) <;> rfl)) ?_)
  refine TL.cons rfl (V1.t (V1.move' (by (conv => lhs; whnf) <;> rfl)) ?_)
  refine TL.cons rfl (V1.t (V1.ltS (r := ltB a b) rfl rfl rfl) ?_)
  refine TL.cons rfl (V1.t (V1.pick rfl (by (conv => lhs; whnf) <;> rfl)) ?_)
  refine TL.cons rfl (V1.t (V1.assign' (by (conv => lhs; whnf) <;> rfl)) ?_)
  refine TL.nil ?_
  refine T.ret ?_
  exact ⟨_, [], _, .cons (.tmp (by (conv => lhs; whnf) <;> rfl)) .nil, Take.nil, rfl, rfl⟩

set_option maxRecDepth 100000 in
set_option maxHeartbeats 2000000 in
theorem insert_any (w0 : World) (b : Nat) (p q : List UInt8) : FnX P 41 [.slice (some ⟨b, 0, none⟩) 2 2, .int .i64 0, .int .i64 2] w0 [] [(⟨b, 0, [.string (bstr p), .string (bstr q)], 2⟩ : Blk)] (fun _ Z => Z = [(⟨b, 0, (if ltB q p = true then [.string (bstr q), .string (bstr p)] else [.string (bstr p), .string (bstr q)]), 2⟩ : Blk)]) := by
  refine FnX.of 49 [] Go.Proofs.Try.func41 rfl rfl rfl rfl (fun G => ?_)
  simp only [List.cons_append, List.nil_append]
  refine T.seq ?_
  refine T.region ?_
  refine TL.cons rfl (V1.t (V1.move' (by (conv => lhs; whnf) <;> rfl)) ?_)
  refine TL.cons rfl (V1.t (V1.add rfl rfl (wrap_i64 _ (by omega) (by omega))) ?_)
  refine TL.cons rfl (V1.t (V1.assign' (by (conv => lhs; whnf) <;> rfl)) ?_)
  refine TL.nil ?_
  refine T.block ?_
  refine T.rounds 2 (TR.step ?_)
  refine T.seq ?_
  refine T.seq ?_
  refine T.region ?_
  refine TL.cons rfl (V1.t (V1.move' (by (conv => lhs; whnf) <;> rfl)) ?_)
  refine TL.cons rfl (V1.t (V1.move' (by (conv => lhs; whnf) <;> rfl)) ?_)
  refine TL.cons rfl (V1.t (V1.ltI rfl rfl (decide_eq_true (by omega))) ?_)
  ·
    refine TL.nil ?_
    refine T.cond_t rfl ?_
    refine T.skip ?_
    refine T.seq ?_
    refine T.block ?_
    refine T.seq ?_
    refine T.region ?_
    refine TL.cons rfl (V1.t (V1.move' (by (conv => lhs; whnf) <;> rfl)) ?_)
    refine TL.cons rfl (V1.t (V1.assign' (by (conv => lhs; whnf) <;> rfl)) ?_)
    refine TL.nil ?_
    refine T.block ?_
    refine T.rounds 2 (TR.step ?_)
    refine T.seq ?_
    refine T.seq ?_
    refine T.drawDet' mixed (by decide +kernel) ?_
    refine Det.cons 0 (ins := [(7, _)]) (.old (by (conv => lhs; whnf) <;> rfl) (by decide +kernel) .nil) (fun e_ => .inl ⟨rfl, V1.t (V1.move' (by (conv => lhs; whnf) <;> rfl)) ⟨rfl, rfl⟩⟩) ?_
    refine Det.cons 1 (ins := [(1, _)]) (.old (by (conv => lhs; whnf) <;> rfl) (by decide +kernel) .nil) (fun e_ => .inl ⟨rfl, V1.t (V1.move' (by (conv => lhs; whnf) <;> rfl)) ⟨rfl, rfl⟩⟩) ?_
    refine Det.cons 2 (ins := [(16, _), (17, _)]) (.new 0 1 (by decide +kernel) rfl rfl (.new 1 0 (by decide +kernel) rfl rfl .nil)) (fun e_ => .inl ⟨rfl, V1.t (V1.gtI (r := true) rfl rfl (decide_eq_true (by omega))) ⟨rfl, rfl⟩⟩) ?_
    refine Det.cons 3 (ins := [(18, _)]) (.new 2 0 (by decide +kernel) rfl rfl .nil) (fun e_ => .inl ⟨rfl, V1.t (V1.move' (by (conv => lhs; whnf) <;> rfl)) ⟨rfl, rfl⟩⟩) ?_
    refine Det.cons 4 (ins := [(0, _), (19, _)]) (.old (by (conv => lhs; whnf) <;> rfl) (by decide +kernel) (.new 3 0 (by decide +kernel) rfl rfl .nil)) (fun e_ => .inl ⟨rfl, V1.t (V1.move' (by (conv => lhs; whnf) <;> rfl)) ⟨rfl, rfl⟩⟩) ?_
    refine Det.cons 5 (ins := [(7, _), (19, _)]) (.old (by (conv => lhs; whnf) <;> rfl) (by decide +kernel) (.new 3 1 (by decide +kernel) rfl rfl .nil)) (fun e_ => .inl ⟨rfl, V1.t (V1.move' (by (conv => lhs; whnf) <;> rfl)) ⟨rfl, rfl⟩⟩) ?_
    refine Det.cons 6 (ins := [(19, _), (20, _), (21, _)]) (.new 3 2 (by decide +kernel) rfl rfl (.new 4 1 (by decide +kernel) rfl rfl (.new 5 0 (by decide +kernel) rfl rfl .nil))) (fun e_ => .inl ⟨rfl, V1.t (V1.indexAddrS ty_50 sz_9 rfl rfl (by omega) (by omega)) ⟨rfl, rfl⟩⟩) ?_
    refine Det.cons 7 (ins := [(19, _), (22, _)]) (.new 3 3 (by decide +kernel) rfl rfl (.new 6 0 (by decide +kernel) rfl rfl .nil)) (fun e_ => .inl ⟨rfl, V1.t (V1.load1 one_9 rfl (.own (cells := [.string (bstr p), .string (bstr q)]) (by repeat (first | exact Find.here | assumption | apply Find.there | apply Find.far)) (by rfl))) ⟨rfl, rfl⟩⟩) ?_
    refine Det.cons 8 (ins := [(0, _), (19, _)]) (.old (by (conv => lhs; whnf) <;> rfl) (by decide +kernel) (.new 3 4 (by decide +kernel) rfl rfl .nil)) (fun e_ => .inl ⟨rfl, V1.t (V1.move' (by (conv => lhs; whnf) <;> rfl)) ⟨rfl, rfl⟩⟩) ?_
    refine Det.cons 9 (ins := [(7, _), (19, _)]) (.old (by (conv => lhs; whnf) <;> rfl) (by decide +kernel) (.new 3 5 (by decide +kernel) rfl rfl .nil)) (fun e_ => .inl ⟨rfl, V1.t (V1.move' (by (conv => lhs; whnf) <;> rfl)) ⟨rfl, rfl⟩⟩) ?_
    refine Det.cons 10 (ins := [(19, _), (25, _)]) (.new 3 6 (by decide +kernel) rfl rfl (.new 9 0 (by decide +kernel) rfl rfl .nil)) (fun e_ => .inl ⟨rfl, V1.t (V1.sub rfl rfl (wrap_i64 _ (by omega) (by omega))) ⟨rfl, rfl⟩⟩) ?_
    refine Det.cons 11 (ins := [(19, _), (24, _), (26, _)]) (.new 3 7 (by decide +kernel) rfl rfl (.new 8 2 (by decide +kernel) rfl rfl (.new 10 0 (by decide +kernel) rfl rfl .nil))) (fun e_ => .inl ⟨rfl, V1.t (V1.indexAddrS ty_50 sz_9 rfl rfl (by omega) (by omega)) ⟨rfl, rfl⟩⟩) ?_
    refine Det.cons 12 (ins := [(19, _), (27, _)]) (.new 3 8 (by decide +kernel) rfl rfl (.new 11 0 (by decide +kernel) rfl rfl .nil)) (fun e_ => .inl ⟨rfl, V1.t (V1.load1 one_9 rfl (.own (cells := [.string (bstr p), .string (bstr q)]) (by repeat (first | exact Find.here | assumption | apply Find.there | apply Find.far)) (by rfl))) ⟨rfl, rfl⟩⟩) ?_
    refine Det.cons 13 (ins := [(19, _), (23, _), (28, _)]) (v := .bool (ltB q p)) (.new 3 9 (by decide +kernel) rfl rfl (.new 7 5 (by decide +kernel) rfl rfl (.new 12 0 (by decide +kernel) rfl rfl .nil))) (fun e_ => .inl ⟨rfl, ?_⟩) ?_
    · refine T1.call0 has_47 rfl (fun w hs => Less_any q p w) (fun v hv => ?_)
      subst hv
      exact ⟨rfl, rfl⟩
    refine Det.cons 14 (ins := [(19, _), (29, _)]) (.new 3 10 (by decide +kernel) rfl rfl (.new 13 0 (by decide +kernel) rfl rfl .nil)) (fun e_ => .inl ⟨rfl, V1.t (V1.pick rfl (by (conv => lhs; whnf) <;> rfl)) ⟨rfl, rfl⟩⟩) ?_
    refine Det.nil 15 (l := [(0, _), (1, _), (2, _), (6, _), (7, _), (30, _)]) (.old (by (conv => lhs; whnf) <;> rfl) (by decide +kernel) (.old (by (conv => lhs; whnf) <;> rfl) (by decide +kernel) (.old (by (conv => lhs; whnf) <;> rfl) (by decide +kernel) (.old (by (conv => lhs; whnf) <;> rfl) (by decide +kernel) (.old (by (conv => lhs; whnf) <;> rfl) (by decide +kernel) (.new 14 0 (by decide +kernel) rfl rfl .nil)))))) (fun e_ => ?_)
    refine T.cond_split rfl (fun hc => ?_) (fun hc => ?_)
    ·
      refine T.skip ?_
      refine T.seq ?_
      refine T.block ?_
      refine T.drawU mixed ?_
      refine TU.take 0 rfl (by decide +kernel) (by decide +kernel) (by decide +kernel) rfl (fun _ _ _ h => h) (fun _ => V1.move' (by (conv => lhs; whnf) <;> rfl)) ?_
      refine TU.take 1 rfl (by decide +kernel) (by decide +kernel) (by decide +kernel) rfl (fun _ _ _ h => h) (fun _ => V1.move' (by (conv => lhs; whnf) <;> rfl)) ?_
      refine TU.take 2 rfl (by decide +kernel) (by decide +kernel) (by decide +kernel) rfl (fun _ _ _ h => h) (fun _ => V1.move' (by (conv => lhs; whnf) <;> rfl)) ?_
      refine TU.take 3 rfl (by decide +kernel) (by decide +kernel) (by decide +kernel) rfl (fun _ _ _ h => h) (fun _ => V1.move' (by (conv => lhs; whnf) <;> rfl)) ?_
      refine TU.take 4 rfl (by decide +kernel) (by decide +kernel) (by decide +kernel) rfl (fun _ _ _ h => h) (fun _ => V1.sub rfl rfl (wrap_i64 _ (by omega) (by omega))) ?_
      refine TU.take 5 rfl (by decide +kernel) (by decide +kernel) (by decide +kernel) rfl (fun _ _ _ h => h) (fun _ => V1.move' (by (conv => lhs; whnf) <;> rfl)) ?_
      refine TU.take 6 rfl (by decide +kernel) (by decide +kernel) (by decide +kernel) rfl (fun _ _ _ h => h) (fun _ => V1.move' (by (conv => lhs; whnf) <;> rfl)) ?_
      refine TU.take 7 rfl (by decide +kernel) (by decide +kernel) (by decide +kernel) rfl (fun _ _ _ h => h) (fun _ => V1.sub rfl rfl (wrap_i64 _ (by omega) (by omega))) ?_
      refine TU.take 8 rfl (by decide +kernel) (by decide +kernel) (by decide +kernel) rfl (fun _ _ _ h => h) (fun _ => V1.indexAddrS ty_50 sz_9 rfl rfl (by omega) (by omega)) ?_
      refine TU.take 10 rfl (by decide +kernel) (by decide +kernel) (by decide +kernel) rfl (fun _ _ _ h => h) (fun _ => V1.move' (by (conv => lhs; whnf) <;> rfl)) ?_
      refine TU.take 11 rfl (by decide +kernel) (by decide +kernel) (by decide +kernel) rfl (fun _ _ _ h => h) (fun _ => V1.move' (by (conv => lhs; whnf) <;> rfl)) ?_
      refine TU.take 12 rfl (by decide +kernel) (by decide +kernel) (by decide +kernel) rfl (fun _ _ _ h => h) (fun _ => V1.indexAddrS ty_50 sz_9 rfl rfl (by omega) (by omega)) ?_
      refine TU.two 9 13 (by decide +kernel) rfl rfl rfl rfl (V1.t (V1.load1 one_9 rfl (.own (cells := [.string (bstr p), .string (bstr q)]) (by repeat (first | exact Find.here | assumption | apply Find.there | apply Find.far)) (by rfl))) ?_) (V1.t (V1.load1 one_9 rfl (.own (cells := [.string (bstr p), .string (bstr q)]) (by repeat (first | exact Find.here | assumption | apply Find.there | apply Find.far)) (by rfl))) ?_)
      ·
        refine TU.one 13 (by decide +kernel) rfl rfl (V1.t (V1.load1 one_9 rfl (.own (cells := [.string (bstr p), .string (bstr q)]) (by repeat (first | exact Find.here | assumption | apply Find.there | apply Find.far)) (by rfl))) ?_)
        refine TU.take 14 rfl (by decide +kernel) (by decide +kernel) (by decide +kernel) rfl (fun _ _ _ h => h) (fun _ => V1.indexAddrS ty_50 sz_9 rfl rfl (by omega) (by omega)) ?_
        refine TU.one 15 (by decide +kernel) rfl rfl (T1.storeE (o := 1) (cells := [.string (bstr p), .string (bstr q)]) (cells' := [.string (bstr p), .string (bstr p)]) rfl rfl sz_9 rfl rfl (by repeat (first | exact Sub.one | apply Sub.there | apply Sub.far)) (Nat.zero_le _) (by simp only [List.length_cons, List.length_nil]; omega) ?_)
        refine TU.take 16 rfl (by decide +kernel) (by decide +kernel) (by decide +kernel) rfl (fun _ _ _ h => h) (fun _ => V1.indexAddrS ty_50 sz_9 rfl rfl (by omega) (by omega)) ?_
        refine TU.one 17 (by decide +kernel) rfl rfl (T1.storeE (o := 0) (cells := [.string (bstr p), .string (bstr p)]) (cells' := [.string (bstr q), .string (bstr p)]) rfl rfl sz_9 rfl rfl (by repeat (first | exact Sub.one | apply Sub.there | apply Sub.far)) (Nat.zero_le _) (by simp only [List.length_cons, List.length_nil]; omega) ?_)
        refine TU.done (by decide +kernel) ?_
        refine T.live (l := [(0, _), (1, _), (2, _), (6, _), (7, _)]) (.cons (by (conv => lhs; whnf) <;> rfl) (.cons (by (conv => lhs; whnf) <;> rfl) (.cons (by (conv => lhs; whnf) <;> rfl) (.cons (by (conv => lhs; whnf) <;> rfl) (.cons (by (conv => lhs; whnf) <;> rfl) .nil))))) (fun e_ => ?_)
        refine T.region ?_
        refine TL.cons rfl (V1.t (V1.move' (by (conv => lhs; whnf) <;> rfl)) ?_)
        refine TL.cons rfl (V1.t (V1.sub rfl rfl (wrap_i64 _ (by omega) (by omega))) ?_)
        ·
          refine TL.cons rfl (V1.t (V1.assign' (by (conv => lhs; whnf) <;> rfl)) ?_)
          refine TL.nil ?_
          refine TR.step ?_
          refine T.seq ?_
          refine T.seq ?_
          refine T.drawDet' mixed (by decide +kernel) ?_
          refine Det.cons 0 (ins := [(7, _)]) (.old (by (conv => lhs; whnf) <;> rfl) (by decide +kernel) .nil) (fun e_ => .inl ⟨rfl, V1.t (V1.move' (by (conv => lhs; whnf) <;> rfl)) ⟨rfl, rfl⟩⟩) ?_
          refine Det.cons 1 (ins := [(1, _)]) (.old (by (conv => lhs; whnf) <;> rfl) (by decide +kernel) .nil) (fun e_ => .inl ⟨rfl, V1.t (V1.move' (by (conv => lhs; whnf) <;> rfl)) ⟨rfl, rfl⟩⟩) ?_
          refine Det.cons 2 (ins := [(16, _), (17, _)]) (.new 0 1 (by decide +kernel) rfl rfl (.new 1 0 (by decide +kernel) rfl rfl .nil)) (fun e_ => .inl ⟨rfl, V1.t (V1.gtI (r := false) rfl rfl (decide_eq_false (by omega))) ⟨rfl, rfl⟩⟩) ?_
          refine Det.cons 3 (ins := [(18, _)]) (.new 2 0 (by decide +kernel) rfl rfl .nil) (fun e_ => .inl ⟨rfl, V1.t (V1.move' (by (conv => lhs; whnf) <;> rfl)) ⟨rfl, rfl⟩⟩) ?_
          refine Det.cons 4 (ins := [(19, _)]) (.new 3 0 (by decide +kernel) rfl rfl .nil) (fun e_ => .inr ⟨rfl, rfl⟩) ?_
          refine Det.cons 5 (ins := [(19, _)]) (.new 3 1 (by decide +kernel) rfl rfl .nil) (fun e_ => .inr ⟨rfl, rfl⟩) ?_
          refine Det.cons 6 (ins := [(19, _)]) (.new 3 2 (by decide +kernel) rfl rfl .nil) (fun e_ => .inr ⟨rfl, rfl⟩) ?_
          refine Det.cons 7 (ins := [(19, _)]) (.new 3 3 (by decide +kernel) rfl rfl .nil) (fun e_ => .inr ⟨rfl, rfl⟩) ?_
          refine Det.cons 8 (ins := [(19, _)]) (.new 3 4 (by decide +kernel) rfl rfl .nil) (fun e_ => .inr ⟨rfl, rfl⟩) ?_
          refine Det.cons 9 (ins := [(19, _)]) (.new 3 5 (by decide +kernel) rfl rfl .nil) (fun e_ => .inr ⟨rfl, rfl⟩) ?_
          refine Det.cons 10 (ins := [(19, _)]) (.new 3 6 (by decide +kernel) rfl rfl .nil) (fun e_ => .inr ⟨rfl, rfl⟩) ?_
          refine Det.cons 11 (ins := [(19, _)]) (.new 3 7 (by decide +kernel) rfl rfl .nil) (fun e_ => .inr ⟨rfl, rfl⟩) ?_
          refine Det.cons 12 (ins := [(19, _)]) (.new 3 8 (by decide +kernel) rfl rfl .nil) (fun e_ => .inr ⟨rfl, rfl⟩) ?_
          refine Det.cons 13 (ins := [(19, _)]) (.new 3 9 (by decide +kernel) rfl rfl .nil) (fun e_ => .inr ⟨rfl, rfl⟩) ?_
          refine Det.cons 14 (ins := [(19, _), (29, _)]) (.new 3 10 (by decide +kernel) rfl rfl (.new 13 0 (by decide +kernel) rfl rfl .nil)) (fun e_ => .inl ⟨rfl, V1.t (V1.pick rfl (by (conv => lhs; whnf) <;> rfl)) ⟨rfl, rfl⟩⟩) ?_
          refine Det.nil 15 (l := [(0, _), (1, _), (2, _), (6, _), (7, _), (30, _)]) (.old (by (conv => lhs; whnf) <;> rfl) (by decide +kernel) (.old (by (conv => lhs; whnf) <;> rfl) (by decide +kernel) (.old (by (conv => lhs; whnf) <;> rfl) (by decide +kernel) (.old (by (conv => lhs; whnf) <;> rfl) (by decide +kernel) (.old (by (conv => lhs; whnf) <;> rfl) (by decide +kernel) (.new 14 0 (by decide +kernel) rfl rfl .nil)))))) (fun e_ => ?_)
          refine T.cond_f rfl ?_
          refine T.exit ?_
          refine T.region ?_
          refine TL.cons rfl (V1.t (V1.move' (by (conv => lhs; whnf) <;> rfl)) ?_)
          refine TL.cons rfl (V1.t (V1.add rfl rfl (wrap_i64 _ (by omega) (by omega))) ?_)
          refine TL.cons rfl (V1.t (V1.assign' (by (conv => lhs; whnf) <;> rfl)) ?_)
          refine TL.nil ?_
          refine TR.step ?_
          refine T.seq ?_
          refine T.seq ?_
          refine T.region ?_
          refine TL.cons rfl (V1.t (V1.move' (by (conv => lhs; whnf) <;> rfl)) ?_)
          refine TL.cons rfl (V1.t (V1.move' (by (conv => lhs; whnf) <;> rfl)) ?_)
          refine TL.cons rfl (V1.t (V1.ltI rfl rfl (decide_eq_false (by omega))) ?_)
          ·
            refine TL.nil ?_
            refine T.cond_f rfl ?_
            refine T.exit ?_
            -- the end
            exact ⟨_, _ :: G, _, .nil, (by repeat (first | exact Take.nil | apply Take.one (by repeat (first | exact Pick.here | apply Pick.there | apply Pick.far)) | apply Take.seg (by repeat (first | exact PickS.last | exact PickS.one | exact PickS.here | exact PickS.nil | apply PickS.there | apply PickS.far)) | exact Take.last (by repeat (first | exact PickS.last | exact PickS.one | exact PickS.here | exact PickS.nil | apply PickS.there | apply PickS.far)))), [_], rfl, by first | rw [if_pos hc] | rw [if_neg (by rw [hc]; decide)]⟩
      ·
        refine TU.one 9 (by decide +kernel) rfl rfl (V1.t (V1.load1 one_9 rfl (.own (cells := [.string (bstr p), .string (bstr q)]) (by repeat (first | exact Find.here | assumption | apply Find.there | apply Find.far)) (by rfl))) ?_)
        refine TU.take 14 rfl (by decide +kernel) (by decide +kernel) (by decide +kernel) rfl (fun _ _ _ h => h) (fun _ => V1.indexAddrS ty_50 sz_9 rfl rfl (by omega) (by omega)) ?_
        refine TU.one 15 (by decide +kernel) rfl rfl (T1.storeE (o := 1) (cells := [.string (bstr p), .string (bstr q)]) (cells' := [.string (bstr p), .string (bstr p)]) rfl rfl sz_9 rfl rfl (by repeat (first | exact Sub.one | apply Sub.there | apply Sub.far)) (Nat.zero_le _) (by simp only [List.length_cons, List.length_nil]; omega) ?_)
        refine TU.take 16 rfl (by decide +kernel) (by decide +kernel) (by decide +kernel) rfl (fun _ _ _ h => h) (fun _ => V1.indexAddrS ty_50 sz_9 rfl rfl (by omega) (by omega)) ?_
        refine TU.one 17 (by decide +kernel) rfl rfl (T1.storeE (o := 0) (cells := [.string (bstr p), .string (bstr p)]) (cells' := [.string (bstr q), .string (bstr p)]) rfl rfl sz_9 rfl rfl (by repeat (first | exact Sub.one | apply Sub.there | apply Sub.far)) (Nat.zero_le _) (by simp only [List.length_cons, List.length_nil]; omega) ?_)
        refine TU.done (by decide +kernel) ?_
        refine T.live (l := [(0, _), (1, _), (2, _), (6, _), (7, _)]) (.cons (by (conv => lhs; whnf) <;> rfl) (.cons (by (conv => lhs; whnf) <;> rfl) (.cons (by (conv => lhs; whnf) <;> rfl) (.cons (by (conv => lhs; whnf) <;> rfl) (.cons (by (conv => lhs; whnf) <;> rfl) .nil))))) (fun e_ => ?_)
        refine T.region ?_
        refine TL.cons rfl (V1.t (V1.move' (by (conv => lhs; whnf) <;> rfl)) ?_)
        refine TL.cons rfl (V1.t (V1.sub rfl rfl (wrap_i64 _ (by omega) (by omega))) ?_)
        ·
          refine TL.cons rfl (V1.t (V1.assign' (by (conv => lhs; whnf) <;> rfl)) ?_)
          refine TL.nil ?_
          refine TR.step ?_
          refine T.seq ?_
          refine T.seq ?_
          refine T.drawDet' mixed (by decide +kernel) ?_
          refine Det.cons 0 (ins := [(7, _)]) (.old (by (conv => lhs; whnf) <;> rfl) (by decide +kernel) .nil) (fun e_ => .inl ⟨rfl, V1.t (V1.move' (by (conv => lhs; whnf) <;> rfl)) ⟨rfl, rfl⟩⟩) ?_
          refine Det.cons 1 (ins := [(1, _)]) (.old (by (conv => lhs; whnf) <;> rfl) (by decide +kernel) .nil) (fun e_ => .inl ⟨rfl, V1.t (V1.move' (by (conv => lhs; whnf) <;> rfl)) ⟨rfl, rfl⟩⟩) ?_
          refine Det.cons 2 (ins := [(16, _), (17, _)]) (.new 0 1 (by decide +kernel) rfl rfl (.new 1 0 (by decide +kernel) rfl rfl .nil)) (fun e_ => .inl ⟨rfl, V1.t (V1.gtI (r := false) rfl rfl (decide_eq_false (by omega))) ⟨rfl, rfl⟩⟩) ?_
          refine Det.cons 3 (ins := [(18, _)]) (.new 2 0 (by decide +kernel) rfl rfl .nil) (fun e_ => .inl ⟨rfl, V1.t (V1.move' (by (conv => lhs; whnf) <;> rfl)) ⟨rfl, rfl⟩⟩) ?_
          refine Det.cons 4 (ins := [(19, _)]) (.new 3 0 (by decide +kernel) rfl rfl .nil) (fun e_ => .inr ⟨rfl, rfl⟩) ?_
          refine Det.cons 5 (ins := [(19, _)]) (.new 3 1 (by decide +kernel) rfl rfl .nil) (fun e_ => .inr ⟨rfl, rfl⟩) ?_
          refine Det.cons 6 (ins := [(19, _)]) (.new 3 2 (by decide +kernel) rfl rfl .nil) (fun e_ => .inr ⟨rfl, rfl⟩) ?_
          refine Det.cons 7 (ins := [(19, _)]) (.new 3 3 (by decide +kernel) rfl rfl .nil) (fun e_ => .inr ⟨rfl, rfl⟩) ?_
          refine Det.cons 8 (ins := [(19, _)]) (.new 3 4 (by decide +kernel) rfl rfl .nil) (fun e_ => .inr ⟨rfl, rfl⟩) ?_
          refine Det.cons 9 (ins := [(19, _)]) (.new 3 5 (by decide +kernel) rfl rfl .nil) (fun e_ => .inr ⟨rfl, rfl⟩) ?_
          refine Det.cons 10 (ins := [(19, _)]) (.new 3 6 (by decide +kernel) rfl rfl .nil) (fun e_ => .inr ⟨rfl, rfl⟩) ?_
          refine Det.cons 11 (ins := [(19, _)]) (.new 3 7 (by decide +kernel) rfl rfl .nil) (fun e_ => .inr ⟨rfl, rfl⟩) ?_
          refine Det.cons 12 (ins := [(19, _)]) (.new 3 8 (by decide +kernel) rfl rfl .nil) (fun e_ => .inr ⟨rfl, rfl⟩) ?_
          refine Det.cons 13 (ins := [(19, _)]) (.new 3 9 (by decide +kernel) rfl rfl .nil) (fun e_ => .inr ⟨rfl, rfl⟩) ?_
          refine Det.cons 14 (ins := [(19, _), (29, _)]) (.new 3 10 (by decide +kernel) rfl rfl (.new 13 0 (by decide +kernel) rfl rfl .nil)) (fun e_ => .inl ⟨rfl, V1.t (V1.pick rfl (by (conv => lhs; whnf) <;> rfl)) ⟨rfl, rfl⟩⟩) ?_
          refine Det.nil 15 (l := [(0, _), (1, _), (2, _), (6, _), (7, _), (30, _)]) (.old (by (conv => lhs; whnf) <;> rfl) (by decide +kernel) (.old (by (conv => lhs; whnf) <;> rfl) (by decide +kernel) (.old (by (conv => lhs; whnf) <;> rfl) (by decide +kernel) (.old (by (conv => lhs; whnf) <;> rfl) (by decide +kernel) (.old (by (conv => lhs; whnf) <;> rfl) (by decide +kernel) (.new 14 0 (by decide +kernel) rfl rfl .nil)))))) (fun e_ => ?_)
          refine T.cond_f rfl ?_
          refine T.exit ?_
          refine T.region ?_
          refine TL.cons rfl (V1.t (V1.move' (by (conv => lhs; whnf) <;> rfl)) ?_)
          refine TL.cons rfl (V1.t (V1.add rfl rfl (wrap_i64 _ (by omega) (by omega))) ?_)
          refine TL.cons rfl (V1.t (V1.assign' (by (conv => lhs; whnf) <;> rfl)) ?_)
          refine TL.nil ?_
          refine TR.step ?_
          refine T.seq ?_
          refine T.seq ?_
          refine T.region ?_
          refine TL.cons rfl (V1.t (V1.move' (by (conv => lhs; whnf) <;> rfl)) ?_)
          refine TL.cons rfl (V1.t (V1.move' (by (conv => lhs; whnf) <;> rfl)) ?_)
          refine TL.cons rfl (V1.t (V1.ltI rfl rfl (decide_eq_false (by omega))) ?_)
          ·
            refine TL.nil ?_
            refine T.cond_f rfl ?_
            refine T.exit ?_
            -- the end
            exact ⟨_, _ :: G, _, .nil, (by repeat (first | exact Take.nil | apply Take.one (by repeat (first | exact Pick.here | apply Pick.there | apply Pick.far)) | apply Take.seg (by repeat (first | exact PickS.last | exact PickS.one | exact PickS.here | exact PickS.nil | apply PickS.there | apply PickS.far)) | exact Take.last (by repeat (first | exact PickS.last | exact PickS.one | exact PickS.here | exact PickS.nil | apply PickS.there | apply PickS.far)))), [_], rfl, by first | rw [if_pos hc] | rw [if_neg (by rw [hc]; decide)]⟩
    ·
      refine T.exit ?_
      refine T.region ?_
      refine TL.cons rfl (V1.t (V1.move' (by (conv => lhs; whnf) <;> rfl)) ?_)
      refine TL.cons rfl (V1.t (V1.add rfl rfl (wrap_i64 _ (by omega) (by omega))) ?_)
      refine TL.cons rfl (V1.t (V1.assign' (by (conv => lhs; whnf) <;> rfl)) ?_)
      refine TL.nil ?_
      refine TR.step ?_
      refine T.seq ?_
      refine T.seq ?_
      refine T.region ?_
      refine TL.cons rfl (V1.t (V1.move' (by (conv => lhs; whnf) <;> rfl)) ?_)
      refine TL.cons rfl (V1.t (V1.move' (by (conv => lhs; whnf) <;> rfl)) ?_)
      refine TL.cons rfl (V1.t (V1.ltI rfl rfl (decide_eq_false (by omega))) ?_)
      ·
        refine TL.nil ?_
        refine T.cond_f rfl ?_
        refine T.exit ?_
        -- the end
        exact ⟨_, _ :: G, _, .nil, (by repeat (first | exact Take.nil | apply Take.one (by repeat (first | exact Pick.here | apply Pick.there | apply Pick.far)) | apply Take.seg (by repeat (first | exact PickS.last | exact PickS.one | exact PickS.here | exact PickS.nil | apply PickS.there | apply PickS.far)) | exact Take.last (by repeat (first | exact PickS.last | exact PickS.one | exact PickS.here | exact PickS.nil | apply PickS.there | apply PickS.far)))), [_], rfl, by first | rw [if_pos hc] | rw [if_neg (by rw [hc]; decide)]⟩

set_option maxRecDepth 100000 in
theorem pdq_any (w0 : World) (b : Nat) (p q : List UInt8) (m : Int) : FnX P 28 [.slice (some ⟨b, 0, none⟩) 2 2, .int .i64 0, .int .i64 2, .int .i64 m] w0 [] [(⟨b, 0, [.string (bstr p), .string (bstr q)], 2⟩ : Blk)] (fun _ Z => Z = [(⟨b, 0, (if ltB q p = true then [.string (bstr q), .string (bstr p)] else [.string (bstr p), .string (bstr q)]), 2⟩ : Blk)]) := by
  refine FnX.of 134 [] Go.Proofs.Try.func28 rfl rfl rfl rfl (fun G => ?_)
  simp only [List.cons_append, List.nil_append]
  refine T.seq ?_
  refine T.region ?_
  refine TL.cons rfl (V1.t (V1.assign' (by (conv => lhs; whnf) <;> rfl)) ?_)
  refine TL.nil ?_
  refine T.seq ?_
  refine T.region ?_
  refine TL.cons rfl (V1.t (V1.assign' (by (conv => lhs; whnf) <;> rfl)) ?_)
  refine TL.nil ?_
  refine T.block ?_
  refine T.rounds 1 (TR.step ?_)
  refine T.block ?_
  refine T.seq ?_
  refine T.region ?_
  refine TL.cons rfl (V1.t (V1.move' (by (conv => lhs; whnf) <;> rfl)) ?_)
  refine TL.cons rfl (V1.t (V1.move' (by (conv => lhs; whnf) <;> rfl)) ?_)
  refine TL.cons rfl (V1.t (V1.sub rfl rfl (wrap_i64 _ (by omega) (by omega))) ?_)
  refine TL.cons rfl (V1.t (V1.assign' (by (conv => lhs; whnf) <;> rfl)) ?_)
  refine TL.nil ?_
  refine T.seq ?_
  refine T.seq ?_
  refine T.region ?_
  refine TL.cons rfl (V1.t (V1.move' (by (conv => lhs; whnf) <;> rfl)) ?_)
  refine TL.cons rfl (V1.t (V1.leI (r := true) rfl rfl (decide_eq_true (by omega))) ?_)
  refine TL.nil ?_
  refine T.cond_t rfl ?_
  refine T.seq ?_
  refine T.region ?_
  refine TL.cons rfl (V1.t (V1.move' (by (conv => lhs; whnf) <;> rfl)) ?_)
  refine TL.cons rfl (V1.t (V1.move' (by (conv => lhs; whnf) <;> rfl)) ?_)
  refine TL.cons rfl (V1.t (V1.move' (by (conv => lhs; whnf) <;> rfl)) ?_)
  refine TL.cons rfl (T1.callX (X := [(⟨b, 0, [.string (bstr p), .string (bstr q)], 2⟩ : Blk)]) has_41 rfl (insert_any _ b p q) (by repeat (first | exact Take.nil | apply Take.one (by repeat (first | exact Pick.here | apply Pick.there | apply Pick.far)) | apply Take.seg (by repeat (first | exact PickS.last | exact PickS.one | exact PickS.here | exact PickS.nil | apply PickS.there | apply PickS.far)) | exact Take.last (by repeat (first | exact PickS.last | exact PickS.one | exact PickS.here | exact PickS.nil | apply PickS.there | apply PickS.far)))) (fun v Z hZ => ?_))
  obtain ⟨rfl⟩ : Z = _ := hZ
  simp only [List.cons_append, List.nil_append]
  refine TL.nil ?_
  refine T.ret ?_
  exact ⟨_, _ :: G, _, .nil, (by repeat (first | exact Take.nil | apply Take.one (by repeat (first | exact Pick.here | apply Pick.there | apply Pick.far)) | apply Take.seg (by repeat (first | exact PickS.last | exact PickS.one | exact PickS.here | exact PickS.nil | apply PickS.there | apply PickS.far)) | exact Take.last (by repeat (first | exact PickS.last | exact PickS.one | exact PickS.here | exact PickS.nil | apply PickS.there | apply PickS.far)))), [_], rfl, rfl⟩

set_option maxRecDepth 100000 in
theorem Len64_2 (w : World) : Fn P 51 [.int .u64 2] w [] (fun v Y => Y = [] ∧ ∃ m, v = .int .i64 m) := by
  refine Fn.of 25 [.tmp 2] Go.Proofs.Try.func51 rfl rfl rfl rfl ?_
  refine T.seq ?_
  refine T.region ?_
  refine TL.cons rfl (V1.t (V1.assign' (by (conv => lhs; whnf) <;> rfl)) ?_)
  refine TL.nil ?_
  refine T.seq ?_
  refine T.seq ?_
  refine T.region ?_
  refine TL.cons rfl (V1.t (V1.move' (by (conv => lhs; whnf) <;> rfl)) ?_)
  refine TL.cons rfl (V1.t (V1.geI (r := false) rfl rfl (by decide)) ?_)
  refine TL.nil ?_
  refine T.cond_f rfl ?_
  refine T.skip ?_
  refine T.seq ?_
  refine T.seq ?_
  refine T.region ?_
  refine TL.cons rfl (V1.t (V1.move' (by (conv => lhs; whnf) <;> rfl)) ?_)
  refine TL.cons rfl (V1.t (V1.geI (r := false) rfl rfl (by decide)) ?_)
  refine TL.nil ?_
  refine T.cond_f rfl ?_
  refine T.skip ?_
  refine T.seq ?_
  refine T.seq ?_
  refine T.region ?_
  refine TL.cons rfl (V1.t (V1.move' (by (conv => lhs; whnf) <;> rfl)) ?_)
  refine TL.cons rfl (V1.t (V1.geI (r := false) rfl rfl (by decide)) ?_)
  refine TL.nil ?_
  refine T.cond_f rfl ?_
  refine T.skip ?_
  refine T.seq ?_
  refine T.region ?_
  refine TL.cons rfl (V1.t (V1.move' (by (conv => lhs; whnf) <;> rfl)) ?_)
  refine TL.cons rfl (V1.t (V1.move' (by (conv => lhs; whnf) <;> rfl)) ?_)
  refine TL.cons rfl (V1.t (V1.conv (c := 2) ty_47 ty_5 rfl (by decide)) ?_)
  refine TL.cons rfl (V1.t (V1.indexStr (c := 2) ty_9 rfl rfl (by decide) (by rfl)) ?_)
  refine TL.cons rfl (V1.t (V1.conv (c := 2) ty_5 ty_3 rfl (by decide)) ?_)
  refine TL.cons rfl (V1.t (V1.add (c := 2) rfl rfl (by decide)) ?_)
  refine TL.cons rfl (V1.t (V1.assign' (by (conv => lhs; whnf) <;> rfl)) ?_)
  refine TL.nil ?_
  refine T.ret ?_
  exact ⟨_, [], _, .cons (.tmp (by (conv => lhs; whnf) <;> rfl)) .nil, Take.nil, rfl, _, rfl⟩

set_option maxRecDepth 100000 in
theorem Len_2 (w : World) : Fn P 29 [.int .u64 2] w [] (fun v Y => Y = [] ∧ ∃ m, v = .int .i64 m) := by
  refine Fn.of 8 [.tmp 2] Go.Proofs.Try.func29 rfl rfl rfl rfl ?_
  refine T.seq ?_
  refine T.region ?_
  refine TL.cons rfl (V1.t (V1.assign' (by (conv => lhs; whnf) <;> rfl)) ?_)
  refine TL.nil ?_
  refine T.seq ?_
  refine T.cond_f rfl ?_
  refine T.skip ?_
  refine T.seq ?_
  refine T.region ?_
  refine TL.cons rfl (V1.t (V1.move' (by (conv => lhs; whnf) <;> rfl)) ?_)
  refine TL.cons rfl (T1.call0 has_51 rfl (fun w hs => Len64_2 w) (fun v hv => ?_))
  obtain ⟨m, rfl⟩ := hv
  refine TL.cons rfl (V1.t (V1.assign' (by (conv => lhs; whnf) <;> rfl)) ?_)
  refine TL.nil ?_
  refine T.ret ?_
  exact ⟨_, [], _, .cons (.tmp (by (conv => lhs; whnf) <;> rfl)) .nil, Take.nil, rfl, _, rfl⟩

set_option maxRecDepth 100000 in
theorem Sort_any (w0 : World) (b : Nat) (p q : List UInt8) : FnX P 19 [.slice (some ⟨b, 0, none⟩) 2 2] w0 [] [(⟨b, 0, [.string (bstr p), .string (bstr q)], 2⟩ : Blk)] (fun _ Z => Z = [(⟨b, 0, (if ltB q p = true then [.string (bstr q), .string (bstr p)] else [.string (bstr p), .string (bstr q)]), 2⟩ : Blk)]) := by
  refine FnX.of 11 [] Go.Proofs.Try.func19 rfl rfl rfl rfl (fun G => ?_)
  simp only [List.cons_append, List.nil_append]
  refine T.seq ?_
  refine T.region ?_
  refine TL.cons rfl (V1.t (V1.move' (by (conv => lhs; whnf) <;> rfl)) ?_)
  refine TL.cons rfl (V1.t (V1.lenSl ty_50 rfl) ?_)
  refine TL.cons rfl (V1.t (V1.assign' (by (conv => lhs; whnf) <;> rfl)) ?_)
  refine TL.nil ?_
  refine T.region ?_
  refine TL.cons rfl (V1.t (V1.move' (by (conv => lhs; whnf) <;> rfl)) ?_)
  refine TL.cons rfl (V1.t (V1.move' (by (conv => lhs; whnf) <;> rfl)) ?_)
  refine TL.cons rfl (V1.t (V1.move' (by (conv => lhs; whnf) <;> rfl)) ?_)
  refine TL.cons rfl (V1.t (V1.conv (c := 2) ty_3 ty_48 rfl (by decide)) ?_)
  refine TL.cons rfl (T1.call0 has_29 rfl (fun w hs => Len_2 w) (fun v hv => ?_))
  obtain ⟨m, rfl⟩ := hv
  refine TL.cons rfl (T1.callX (X := [(⟨b, 0, [.string (bstr p), .string (bstr q)], 2⟩ : Blk)]) has_28 rfl (pdq_any _ b p q m) (by repeat (first | exact Take.nil | apply Take.one (by repeat (first | exact Pick.here | apply Pick.there | apply Pick.far)) | apply Take.seg (by repeat (first | exact PickS.last | exact PickS.one | exact PickS.here | exact PickS.nil | apply PickS.there | apply PickS.far)) | exact Take.last (by repeat (first | exact PickS.last | exact PickS.one | exact PickS.here | exact PickS.nil | apply PickS.there | apply PickS.far)))) (fun v Z hZ => ?_))
  obtain ⟨rfl⟩ : Z = _ := hZ
  simp only [List.cons_append, List.nil_append]
  refine TL.nil ?_
  -- the end
  exact ⟨_, _ :: G, _, .nil, (by repeat (first | exact Take.nil | apply Take.one (by repeat (first | exact Pick.here | apply Pick.there | apply Pick.far)) | apply Take.seg (by repeat (first | exact PickS.last | exact PickS.one | exact PickS.here | exact PickS.nil | apply PickS.there | apply PickS.far)) | exact Take.last (by repeat (first | exact PickS.last | exact PickS.one | exact PickS.here | exact PickS.nil | apply PickS.there | apply PickS.far)))), [_], rfl, rfl⟩

set_option maxRecDepth 100000 in
theorem grow_any (w0 : World) (b n : Nat) (hn : n ≤ 1000000000) : FnX P 52 [.pointer (some ⟨b, 0, none⟩), .int .i64 (n : Int)] w0 [] [⟨⟨b, some 56⟩, 0, [.pointer (some ⟨b, 0, none⟩), .slice none 0 0], 2⟩] (fun _ Z => BG b [] Z) := by
  refine FnX.of 30 [] Go.Proofs.Try.func52 rfl rfl rfl rfl (fun G => ?_)
  simp only [List.cons_append, List.nil_append]
  refine T.seq ?_
  refine T.drawK (fun L_ => Find L_ ⟨⟨b, some 56⟩, 0, [.pointer (some ⟨b, 0, none⟩), .slice none 0 0], 2⟩) mixed (by repeat (first | exact Find.here | assumption | apply Find.there | apply Find.far)) ?_
  refine TK.take 0 rfl (by decide +kernel) (by decide +kernel) (by decide +kernel) rfl (fun _ _ _ h => h) (fun L_ k1_ => V1.move' (by (conv => lhs; whnf) <;> rfl)) ?_
  refine TK.take 1 rfl (by decide +kernel) (by decide +kernel) (by decide +kernel) rfl (fun _ _ _ h => h) (fun L_ k1_ => V1.nilCheck rfl) ?_
  refine TK.take 2 rfl (by decide +kernel) (by decide +kernel) (by decide +kernel) rfl (fun _ _ _ h => h) (fun L_ k1_ => V1.fieldAddr fl_56_1 rfl) ?_
  refine TK.take 3 rfl (by decide +kernel) (by decide +kernel) (by decide +kernel) rfl (fun _ _ _ h => h) (fun L_ k1_ => V1.load1 one_42 rfl (.own (cells := [.pointer (some ⟨b, 0, none⟩), .slice none 0 0]) (by repeat (first | exact Find.here | assumption | apply Find.there | apply Find.far)) (by rfl))) ?_
  refine TK.take 4 rfl (by decide +kernel) (by decide +kernel) (by decide +kernel) rfl (fun _ _ _ h => h) (fun L_ k1_ => V1.capSl ty_42 rfl) ?_
  refine TK.take 5 rfl (by decide +kernel) (by decide +kernel) (by decide +kernel) rfl (fun _ _ _ h => h) (fun L_ k1_ => V1.mul (c := 0) rfl rfl (by decide)) ?_
  refine TK.take 6 rfl (by decide +kernel) (by decide +kernel) (by decide +kernel) rfl (fun _ _ _ h => h) (fun L_ k1_ => V1.move' (by (conv => lhs; whnf) <;> rfl)) ?_
  refine TK.take 7 rfl (by decide +kernel) (by decide +kernel) (by decide +kernel) rfl (fun _ _ _ h => h) (fun L_ k1_ => V1.add (c := ((n : Nat) : Int)) rfl rfl (by rw [wrap_i64 _ (by omega) (by omega)]; omega)) ?_
  refine TK.take 9 rfl (by decide +kernel) (by decide +kernel) (by decide +kernel) rfl (fun _ _ _ h => h) (fun L_ k1_ => V1.move' (by (conv => lhs; whnf) <;> rfl)) ?_
  refine TK.take 10 rfl (by decide +kernel) (by decide +kernel) (by decide +kernel) rfl (fun _ _ _ h => h) (fun L_ k1_ => V1.nilCheck rfl) ?_
  refine TK.take 11 rfl (by decide +kernel) (by decide +kernel) (by decide +kernel) rfl (fun _ _ _ h => h) (fun L_ k1_ => V1.fieldAddr fl_56_1 rfl) ?_
  refine TK.take 12 rfl (by decide +kernel) (by decide +kernel) (by decide +kernel) rfl (fun _ _ _ h => h) (fun L_ k1_ => V1.load1 one_42 rfl (.own (cells := [.pointer (some ⟨b, 0, none⟩), .slice none 0 0]) (by repeat (first | exact Find.here | assumption | apply Find.there | apply Find.far)) (by rfl))) ?_
  refine TK.take 13 rfl (by decide +kernel) (by decide +kernel) (by decide +kernel) rfl (fun _ _ _ h => h) (fun L_ k1_ => V1.lenSl ty_42 rfl) ?_
  refine TK.one 8 (by decide +kernel) rfl rfl (T1.makeNoZero (ps := #[3]) (t := 42) (E := 5) (n := n) Go.Proofs.Try.func62 (by kernel_rfl) (by kernel_rfl) (by kernel_rfl) (by kernel_rfl) ty_42 rfl (by omega) (fun g cap hcap => ?_))
  refine ⟨(by repeat (first | exact Find.here | assumption | apply Find.there | apply Find.far)), ?_⟩
  refine TK.take 14 rfl (by decide +kernel) (by decide +kernel) (by decide +kernel) rfl (fun _ _ _ h => h) (fun L_ k1_ => V1.sliceTo 0 ty_42 sz_5 rfl rfl rfl (Nat.zero_le _) hcap) ?_
  refine TK.take 15 rfl (by decide +kernel) (by decide +kernel) (by decide +kernel) rfl (fun _ _ _ h => h) (fun L_ k1_ => V1.assign' (by (conv => lhs; whnf) <;> rfl)) ?_
  refine TD.done (by decide +kernel) ?_
  refine T.seq ?_
  refine T.live (l := [(0, _), (4, _)]) (.cons (by (conv => lhs; whnf) <;> rfl) (.cons (by (conv => lhs; whnf) <;> rfl) .nil)) (fun e_ => ?_)
  refine T.region ?_
  refine TL.cons rfl (V1.t (V1.move' (by (conv => lhs; whnf) <;> rfl)) ?_)
  refine TL.cons rfl (V1.t (V1.move' (by (conv => lhs; whnf) <;> rfl)) ?_)
  refine TL.cons rfl (V1.t (V1.nilCheck rfl) ?_)
  refine TL.cons rfl (V1.t (V1.fieldAddr fl_56_1 rfl) ?_)
  refine TL.cons rfl (V1.t (V1.load1 one_42 rfl (.own (cells := [.pointer (some ⟨b, 0, none⟩), .slice none 0 0]) (by repeat (first | exact Find.here | assumption | apply Find.there | apply Find.far)) (by rfl))) ?_)
  refine TL.cons rfl (T1.copy (tg := some 5) (n := 0) (b := g) (o := 0) (off := 0) (size := cap) (cells := []) (new := []) ty_42 sz_5 rfl rfl 0 rfl (fun w => rfl) (fun w _ => rfl) rfl (fun _ h => by cases h) (Nat.le_refl _) (Nat.le_refl _) (by repeat (first | exact Sub.one | apply Sub.there | apply Sub.far)) ?_)
  refine TL.nil ?_
  refine T.region ?_
  refine TL.cons rfl (V1.t (V1.move' (by (conv => lhs; whnf) <;> rfl)) ?_)
  refine TL.cons rfl (V1.t (V1.move' (by (conv => lhs; whnf) <;> rfl)) ?_)
  refine TL.cons rfl (V1.t (V1.nilCheck rfl) ?_)
  refine TL.cons rfl (V1.t (V1.fieldAddr fl_56_1 rfl) ?_)
  refine TL.cons rfl (T1.store1 (cells := [.pointer (some ⟨b, 0, none⟩), .slice none 0 0]) (cells' := [.pointer (some ⟨b, 0, none⟩), .slice (some ⟨g, 0, none⟩) 0 cap]) (v := .slice (some ⟨g, 0, none⟩) 0 cap) rfl rfl sz_42 rfl (by repeat (first | exact Sub.one | apply Sub.there | apply Sub.far)) (Nat.zero_le _) (by repeat (first | exact SetAt.here | apply SetAt.there)) ?_)
  refine TL.nil ?_
  -- the end
  exact ⟨_, ⟨⟨b, some 56⟩, 0, [.pointer (some ⟨b, 0, none⟩), .slice (some ⟨g, 0, none⟩) 0 cap], 2⟩ :: ⟨⟨g, some 5⟩, 0, [], cap⟩ :: G, _, .nil, (by repeat (first | exact Take.nil | apply Take.one (by repeat (first | exact Pick.here | apply Pick.there | apply Pick.far)) | apply Take.seg (by repeat (first | exact PickS.last | exact PickS.one | exact PickS.here | exact PickS.nil | apply PickS.there | apply PickS.far)) | exact Take.last (by repeat (first | exact PickS.last | exact PickS.one | exact PickS.here | exact PickS.nil | apply PickS.there | apply PickS.far)))), [⟨⟨b, some 56⟩, 0, [.pointer (some ⟨b, 0, none⟩), .slice (some ⟨g, 0, none⟩) 0 cap], 2⟩, ⟨⟨g, some 5⟩, 0, [], cap⟩], rfl, _, _, _, .inr rfl, rfl, SlG.mk rfl (Nat.zero_le _) (by omega)⟩

set_option maxRecDepth 100000 in
theorem Grow_any (w0 : World) (b n : Nat) (p : Value) (hp : p = .pointer none ∨ p = .pointer (some ⟨b, 0, none⟩)) (h0 : 0 < n) (hn : n ≤ 1000000000) : FnX P 30 [.pointer (some ⟨b, 0, none⟩), .int .i64 (n : Int)] w0 [] [⟨⟨b, some 56⟩, 0, [p, .slice none 0 0], 2⟩] (fun _ Z => BG b [] Z) := by
  refine FnX.of 25 [] Go.Proofs.Try.func30 rfl rfl rfl rfl (fun G => ?_)
  simp only [List.cons_append, List.nil_append]
  refine T.seq ?_
  refine T.region ?_
  refine TL.cons rfl (V1.t (V1.move' (by (conv => lhs; whnf) <;> rfl)) ?_)
  refine TL.cons rfl (T1.callX (X := [⟨⟨b, some 56⟩, 0, [p, .slice none 0 0], 2⟩]) has_32 rfl (copyCheck_any _ b p (.slice none 0 0) hp) (by repeat (first | exact Take.nil | apply Take.one (by repeat (first | exact Pick.here | apply Pick.there | apply Pick.far)) | apply Take.seg (by repeat (first | exact PickS.last | exact PickS.one | exact PickS.here | exact PickS.nil | apply PickS.there | apply PickS.far)) | exact Take.last (by repeat (first | exact PickS.last | exact PickS.one | exact PickS.here | exact PickS.nil | apply PickS.there | apply PickS.far)))) (fun v Y hY => ?_))
  subst hY
  simp only [List.cons_append, List.nil_append]
  refine TL.nil ?_
  refine T.seq ?_
  refine T.seq ?_
  refine T.region ?_
  refine TL.cons rfl (V1.t (V1.move' (by (conv => lhs; whnf) <;> rfl)) ?_)
  refine TL.cons rfl (V1.t (V1.ltI (r := false) rfl rfl (decide_eq_false (by omega))) ?_)
  refine TL.nil ?_
  refine T.cond_f rfl ?_
  refine T.skip ?_
  refine T.seq ?_
  refine T.drawR mixed ?_
  refine TD.takeR 0 rfl (by decide +kernel) (by decide +kernel) (by decide +kernel) rfl (fun _ _ _ h => h) (V1.move' (by (conv => lhs; whnf) <;> rfl)) ?_
  refine TD.takeR 1 rfl (by decide +kernel) (by decide +kernel) (by decide +kernel) rfl (fun _ _ _ h => h) (V1.nilCheck rfl) ?_
  refine TD.takeR 2 rfl (by decide +kernel) (by decide +kernel) (by decide +kernel) rfl (fun _ _ _ h => h) (V1.fieldAddr fl_56_1 rfl) ?_
  refine TD.takeR 3 rfl (by decide +kernel) (by decide +kernel) (by decide +kernel) rfl (fun _ _ _ h => h) (V1.load1 one_42 rfl (.own (by repeat (first | exact Find.here | assumption | apply Find.there | apply Find.far)) (by rfl))) ?_
  refine TD.takeR 4 rfl (by decide +kernel) (by decide +kernel) (by decide +kernel) rfl (fun _ _ _ h => h) (V1.capSl ty_42 rfl) ?_
  refine TD.takeR 5 rfl (by decide +kernel) (by decide +kernel) (by decide +kernel) rfl (fun _ _ _ h => h) (V1.move' (by (conv => lhs; whnf) <;> rfl)) ?_
  refine TD.takeR 6 rfl (by decide +kernel) (by decide +kernel) (by decide +kernel) rfl (fun _ _ _ h => h) (V1.nilCheck rfl) ?_
  refine TD.takeR 7 rfl (by decide +kernel) (by decide +kernel) (by decide +kernel) rfl (fun _ _ _ h => h) (V1.fieldAddr fl_56_1 rfl) ?_
  refine TD.takeR 8 rfl (by decide +kernel) (by decide +kernel) (by decide +kernel) rfl (fun _ _ _ h => h) (V1.load1 one_42 rfl (.own (by repeat (first | exact Find.here | assumption | apply Find.there | apply Find.far)) (by rfl))) ?_
  refine TD.takeR 9 rfl (by decide +kernel) (by decide +kernel) (by decide +kernel) rfl (fun _ _ _ h => h) (V1.lenSl ty_42 rfl) ?_
  refine TD.takeR 10 rfl (by decide +kernel) (by decide +kernel) (by decide +kernel) rfl (fun _ _ _ h => h) (V1.sub (c := 0) rfl rfl (by decide)) ?_
  refine TD.takeR 11 rfl (by decide +kernel) (by decide +kernel) (by decide +kernel) rfl (fun _ _ _ h => h) (V1.move' (by (conv => lhs; whnf) <;> rfl)) ?_
  refine TD.takeR 12 rfl (by decide +kernel) (by decide +kernel) (by decide +kernel) rfl (fun _ _ _ h => h) (V1.ltI (r := true) rfl rfl (decide_eq_true (by omega))) ?_
  refine TD.done (by decide +kernel) ?_
  refine T.cond_t rfl ?_
  refine T.live (l := [(0, _), (1, _)]) (.cons (by (conv => lhs; whnf) <;> rfl) (.cons (by (conv => lhs; whnf) <;> rfl) .nil)) (fun e_ => ?_)
  refine T.region ?_
  refine TL.cons rfl (V1.t (V1.move' (by (conv => lhs; whnf) <;> rfl)) ?_)
  refine TL.cons rfl (V1.t (V1.move' (by (conv => lhs; whnf) <;> rfl)) ?_)
  refine TL.cons rfl (T1.callX (X := [⟨⟨b, some 56⟩, 0, [.pointer (some ⟨b, 0, none⟩), .slice none 0 0], 2⟩]) has_52 rfl (grow_any _ b n hn) (by repeat (first | exact Take.nil | apply Take.one (by repeat (first | exact Pick.here | apply Pick.there | apply Pick.far)) | apply Take.seg (by repeat (first | exact PickS.last | exact PickS.one | exact PickS.here | exact PickS.nil | apply PickS.there | apply PickS.far)) | exact Take.last (by repeat (first | exact PickS.last | exact PickS.one | exact PickS.here | exact PickS.nil | apply PickS.there | apply PickS.far)))) (fun v Z hZ => ?_))
  refine TL.nil ?_
  -- the end
  exact ⟨_, Z ++ G, _, .nil, (by repeat (first | exact Take.nil | apply Take.one (by repeat (first | exact Pick.here | apply Pick.there | apply Pick.far)) | apply Take.seg (by repeat (first | exact PickS.last | exact PickS.one | exact PickS.here | exact PickS.nil | apply PickS.there | apply PickS.far)) | exact Take.last (by repeat (first | exact PickS.last | exact PickS.one | exact PickS.here | exact PickS.nil | apply PickS.there | apply PickS.far)))), Z, rfl, hZ⟩

set_option maxRecDepth 100000 in
theorem WriteString_any (w0 : World) (b : Nat) (l m : List UInt8) (X : List Blk) (hb : BG b l X) (hl : l.length + m.length < 199999999999999) : FnX P 31 [.pointer (some ⟨b, 0, none⟩), .string (bstr m)] w0 [] X (fun _ Y => BG b (l ++ m) Y) := by
  obtain ⟨p, s, Ls, hp, rfl, hsl⟩ := hb
  refine FnX.of 19 [.tmp 4, .tmp 5] Go.Proofs.Try.func31 rfl rfl rfl rfl (fun G => ?_)
  simp only [List.cons_append]
  refine T.seq ?_
  refine T.region ?_
  refine TL.cons rfl (V1.t (V1.assign' (by (conv => lhs; whnf) <;> rfl)) ?_)
  refine TL.cons rfl (V1.t (V1.assign' (by (conv => lhs; whnf) <;> rfl)) ?_)
  refine TL.nil ?_
  refine T.seq ?_
  refine T.region ?_
  refine TL.cons rfl (V1.t (V1.move' (by (conv => lhs; whnf) <;> rfl)) ?_)
  refine TL.cons rfl (T1.callX (X := [⟨⟨b, some 56⟩, 0, [p, s], 2⟩]) has_32 rfl (copyCheck_any _ b p s hp) (by repeat (first | exact Take.nil | apply Take.one (by repeat (first | exact Pick.here | apply Pick.there | apply Pick.far)) | apply Take.seg (by repeat (first | exact PickS.last | exact PickS.one | exact PickS.here | exact PickS.nil | apply PickS.there | apply PickS.far)) | exact Take.last (by repeat (first | exact PickS.last | exact PickS.one | exact PickS.here | exact PickS.nil | apply PickS.there | apply PickS.far)))) (fun v Y hY => ?_))
  subst hY
  simp only [List.cons_append, List.nil_append]
  refine TL.nil ?_
  refine T.seq ?_
  refine T.region ?_
  refine TL.cons rfl (V1.t (V1.move' (by (conv => lhs; whnf) <;> rfl)) ?_)
  refine TL.cons rfl (V1.t (V1.move' (by (conv => lhs; whnf) <;> rfl)) ?_)
  refine TL.cons rfl (V1.t (V1.nilCheck rfl) ?_)
  refine TL.cons rfl (V1.t (V1.fieldAddr fl_56_1 rfl) ?_)
  refine TL.cons rfl (V1.t (V1.load1 one_42 rfl (.own (by repeat (first | exact Find.here | assumption | apply Find.there | apply Find.far)) (by rfl))) ?_)
  refine TL.cons rfl (V1.t (V1.move' (by (conv => lhs; whnf) <;> rfl)) ?_)
  refine TL.cons rfl (T1.appendG ty_42 kd_9 sz_5 by_5 zr_5 rfl (by decide) (by decide) rfl rfl (.inr rfl) hsl (.str (s := bstr m) rfl) (one_bytes m) 200000000000000 (by simp only [List.length_map]; show l.length + m.length ≤ _; omega) (by omega) (by repeat (first | exact PickS.last | exact PickS.one | exact PickS.here | exact PickS.nil | apply PickS.there | apply PickS.far)) (fun s1 Ls1 hs1 => ?_))
  replace hs1 : SlG (some 5) s1 ((l ++ m).map byteV) 1 Ls1 := by rw [List.map_append]; exact hs1
  refine TL.cons rfl (V1.t (V1.nilCheck rfl) ?_)
  refine TL.cons rfl (V1.t (V1.fieldAddr fl_56_1 rfl) ?_)
  refine TL.cons rfl (T1.store1 rfl rfl sz_42 hs1.one (by repeat (first | exact Sub.one | apply Sub.there | apply Sub.far)) (Nat.zero_le _) (by repeat (first | exact SetAt.here | apply SetAt.there)) ?_)
  refine TL.nil ?_
  refine T.seq ?_
  refine T.region ?_
  refine TL.cons rfl (V1.t (V1.move' (by (conv => lhs; whnf) <;> rfl)) ?_)
  refine TL.cons rfl (V1.t (V1.lenS ty_9 rfl) ?_)
  refine TL.cons rfl (V1.t (V1.assign' (by (conv => lhs; whnf) <;> rfl)) ?_)
  refine TL.cons rfl (V1.t (V1.assign' (by (conv => lhs; whnf) <;> rfl)) ?_)
  refine TL.nil ?_
  refine T.ret ?_
  exact ⟨_, ⟨⟨b, some 56⟩, 0, [.pointer (some ⟨b, 0, none⟩), s1], 2⟩ :: (Ls1 ++ G), _, .cons (.tmp (by (conv => lhs; whnf) <;> rfl)) (.cons (.tmp (by (conv => lhs; whnf) <;> rfl)) .nil), (by repeat (first | exact Take.nil | apply Take.one (by repeat (first | exact Pick.here | apply Pick.there | apply Pick.far)) | apply Take.seg (by repeat (first | exact PickS.last | exact PickS.one | exact PickS.here | exact PickS.nil | apply PickS.there | apply PickS.far)) | exact Take.last (by repeat (first | exact PickS.last | exact PickS.one | exact PickS.here | exact PickS.nil | apply PickS.there | apply PickS.far)))), ⟨⟨b, some 56⟩, 0, [.pointer (some ⟨b, 0, none⟩), s1], 2⟩ :: Ls1, by rw [List.cons_append], _, _, _, .inr rfl, rfl, hs1⟩

set_option maxRecDepth 100000 in
set_option maxHeartbeats 2000000 in
theorem Join_any (w0 : World) (b : Nat) (p q : List UInt8) (hp : p.length ≤ 1000000) (hq : q.length ≤ 1000000) : FnX P 20 [.slice (some ⟨b, 0, none⟩) 2 2, .string (bstr [32])] w0 [] [(⟨b, 0, [.string (bstr p), .string (bstr q)], 2⟩ : Blk)] (fun v Z => v = .string (bstr (p ++ 32 :: q)) ∧ Z = [(⟨b, 0, [.string (bstr p), .string (bstr q)], 2⟩ : Blk)]) := by
  have hsp : (bstr p).size = p.length := rfl
  have hsq : (bstr q).size = q.length := rfl
  refine FnX.of 75 [.tmp 4] Go.Proofs.Try.func20 rfl rfl rfl rfl (fun G => ?_)
  simp only [List.cons_append, List.nil_append]
  refine T.seq ?_
  refine T.region ?_
  refine TL.cons rfl (V1.t (V1.assign' (by (conv => lhs; whnf) <;> rfl)) ?_)
  refine TL.nil ?_
  refine T.seq ?_
  refine T.seq ?_
  refine T.region ?_
  refine TL.cons rfl (V1.t (V1.move' (by (conv => lhs; whnf) <;> rfl)) ?_)
  refine TL.cons rfl (V1.t (V1.lenSl ty_50 rfl) ?_)
  refine TL.nil ?_
  refine T.block ?_
  refine T.seq ?_
  refine T.region ?_
  refine TL.cons rfl (V1.t (V1.eqI (r := false) rfl rfl (by decide)) ?_)
  refine TL.cons rfl (V1.t (V1.assign' (by (conv => lhs; whnf) <;> rfl)) ?_)
  refine TL.nil ?_
  refine T.cond_f rfl ?_
  refine T.seq ?_
  refine T.region ?_
  refine TL.cons rfl (V1.t (V1.eqI (r := false) rfl rfl (by decide)) ?_)
  refine TL.cons rfl (V1.t (V1.assign' (by (conv => lhs; whnf) <;> rfl)) ?_)
  refine TL.nil ?_
  refine T.cond_f rfl ?_
  refine T.skip ?_
  refine T.seq ?_
  refine T.region ?_
  refine TL.cons rfl (V1.t (V1.assign' (by (conv => lhs; whnf) <;> rfl)) ?_)
  refine TL.nil ?_
  refine T.seq ?_
  refine T.seq ?_
  refine T.region ?_
  refine TL.cons rfl (V1.t (V1.move' (by (conv => lhs; whnf) <;> rfl)) ?_)
  refine TL.cons rfl (V1.t (V1.lenS ty_9 rfl) ?_)
  refine TL.cons rfl (V1.t (V1.gtI (r := true) rfl rfl (by decide)) ?_)
  refine TL.nil ?_
  refine T.cond_t rfl ?_
  refine T.seq ?_
  refine T.seq ?_
  refine T.region ?_
  refine TL.cons rfl (V1.t (V1.move' (by (conv => lhs; whnf) <;> rfl)) ?_)
  refine TL.cons rfl (V1.t (V1.lenS ty_9 rfl) ?_)
  refine TL.cons rfl (V1.t (V1.move' (by (conv => lhs; whnf) <;> rfl)) ?_)
  refine TL.cons rfl (V1.t (V1.lenSl ty_50 rfl) ?_)
  refine TL.cons rfl (V1.t (V1.sub (c := 1) rfl rfl (by decide)) ?_)
  refine TL.cons rfl (V1.t (V1.quo (c := 9223372036854775807) rfl rfl (by decide) (by decide)) ?_)
  refine TL.cons rfl (V1.t (V1.geI (r := false) rfl rfl (by decide)) ?_)
  refine TL.nil ?_
  refine T.cond_f rfl ?_
  refine T.skip ?_
  refine T.live (l := [(0, _), (1, _), (5, _)]) (.cons (by (conv => lhs; whnf) <;> rfl) (.cons (by (conv => lhs; whnf) <;> rfl) (.cons (by (conv => lhs; whnf) <;> rfl) .nil))) (fun e_ => ?_)
  refine T.region ?_
  refine TL.cons rfl (V1.t (V1.move' (by (conv => lhs; whnf) <;> rfl)) ?_)
  refine TL.cons rfl (V1.t (V1.move' (by (conv => lhs; whnf) <;> rfl)) ?_)
  refine TL.cons rfl (V1.t (V1.lenS ty_9 rfl) ?_)
  refine TL.cons rfl (V1.t (V1.move' (by (conv => lhs; whnf) <;> rfl)) ?_)
  refine TL.cons rfl (V1.t (V1.lenSl ty_50 rfl) ?_)
  refine TL.cons rfl (V1.t (V1.sub (c := 1) rfl rfl (by decide)) ?_)
  refine TL.cons rfl (V1.t (V1.mul (c := 1) rfl rfl (by decide)) ?_)
  refine TL.cons rfl (V1.t (V1.add (c := 1) rfl rfl (by decide)) ?_)
  refine TL.cons rfl (V1.t (V1.assign' (by (conv => lhs; whnf) <;> rfl)) ?_)
  refine TL.nil ?_
  refine T.seq ?_
  refine T.seq ?_
  refine T.region ?_
  refine TL.cons rfl (V1.t (V1.move' (by (conv => lhs; whnf) <;> rfl)) ?_)
  refine TL.cons rfl (V1.t (V1.lenSl ty_50 rfl) ?_)
  refine TL.cons rfl (V1.t (V1.move' (by (conv => lhs; whnf) <;> rfl)) ?_)
  refine TL.nil ?_
  refine T.block ?_
  refine T.rounds 3 (TR.step ?_)
  refine T.seq ?_
  refine T.region ?_
  refine TL.cons rfl (V1.t (V1.ltI rfl rfl (decide_eq_true (by omega))) ?_)
  ·
    refine TL.nil ?_
    refine T.seq ?_
    refine T.cond_t rfl ?_
    refine T.skip ?_
    refine T.seq ?_
    refine T.block ?_
    refine T.seq ?_
    refine T.region ?_
    refine TL.cons rfl (V1.t (V1.indexAddrS ty_50 sz_9 rfl rfl (by first | decide | omega) (by first | decide | omega)) ?_)
    refine TL.cons rfl (V1.t (V1.load1 one_9 rfl (.own (cells := [.string (bstr p), .string (bstr q)]) (by repeat (first | exact Find.here | assumption | apply Find.there | apply Find.far)) (by rfl))) ?_)
    refine TL.cons rfl (V1.t (V1.assign' (by (conv => lhs; whnf) <;> rfl)) ?_)
    refine TL.nil ?_
    refine T.seq ?_
    refine T.seq ?_
    refine T.live (l := [(0, _), (1, _), (5, _), (7, _), (39, _), (40, _), (41, _)]) (.cons (by (conv => lhs; whnf) <;> rfl) (.cons (by (conv => lhs; whnf) <;> rfl) (.cons (by (conv => lhs; whnf) <;> rfl) (.cons (by (conv => lhs; whnf) <;> rfl) (.cons (by (conv => lhs; whnf) <;> rfl) (.cons (by (conv => lhs; whnf) <;> rfl) (.cons (by (conv => lhs; whnf) <;> rfl) .nil))))))) (fun e_ => ?_)
    refine T.region ?_
    refine TL.cons rfl (V1.t (V1.move' (by (conv => lhs; whnf) <;> rfl)) ?_)
    refine TL.cons rfl (V1.t (V1.lenS ty_9 rfl) ?_)
    refine TL.cons rfl (V1.t (V1.move' (by (conv => lhs; whnf) <;> rfl)) ?_)
    refine TL.cons rfl (V1.t (V1.sub rfl rfl (wrap_i64 _ (by omega) (by omega))) ?_)
    refine TL.cons rfl (V1.t (V1.gtI (r := false) rfl rfl (decide_eq_false (by omega))) ?_)
    refine TL.nil ?_
    refine T.cond_f rfl ?_
    refine T.skip ?_
    refine T.region ?_
    refine TL.cons rfl (V1.t (V1.move' (by (conv => lhs; whnf) <;> rfl)) ?_)
    refine TL.cons rfl (V1.t (V1.move' (by (conv => lhs; whnf) <;> rfl)) ?_)
    refine TL.cons rfl (V1.t (V1.lenS ty_9 rfl) ?_)
    refine TL.cons rfl (V1.t (V1.add rfl rfl (wrap_i64 _ (by omega) (by omega))) ?_)
    refine TL.cons rfl (V1.t (V1.assign' (by (conv => lhs; whnf) <;> rfl)) ?_)
    refine TL.nil ?_
    refine T.region ?_
    refine TL.cons rfl (V1.t (V1.add rfl rfl (wrap_i64 _ (by omega) (by omega))) ?_)
    refine TL.cons rfl (V1.t (V1.move' (by (conv => lhs; whnf) <;> rfl)) ?_)
    refine TL.nil ?_
    refine TR.step ?_
    refine T.seq ?_
    refine T.region ?_
    refine TL.cons rfl (V1.t (V1.ltI rfl rfl (decide_eq_true (by omega))) ?_)
    ·
      refine TL.nil ?_
      refine T.seq ?_
      refine T.cond_t rfl ?_
      refine T.skip ?_
      refine T.seq ?_
      refine T.block ?_
      refine T.seq ?_
      refine T.region ?_
      refine TL.cons rfl (V1.t (V1.indexAddrS ty_50 sz_9 rfl rfl (by first | decide | omega) (by first | decide | omega)) ?_)
      refine TL.cons rfl (V1.t (V1.load1 one_9 rfl (.own (cells := [.string (bstr p), .string (bstr q)]) (by repeat (first | exact Find.here | assumption | apply Find.there | apply Find.far)) (by rfl))) ?_)
      refine TL.cons rfl (V1.t (V1.assign' (by (conv => lhs; whnf) <;> rfl)) ?_)
      refine TL.nil ?_
      refine T.seq ?_
      refine T.seq ?_
      refine T.live (l := [(0, _), (1, _), (5, _), (7, _), (39, _), (40, _), (41, _)]) (.cons (by (conv => lhs; whnf) <;> rfl) (.cons (by (conv => lhs; whnf) <;> rfl) (.cons (by (conv => lhs; whnf) <;> rfl) (.cons (by (conv => lhs; whnf) <;> rfl) (.cons (by (conv => lhs; whnf) <;> rfl) (.cons (by (conv => lhs; whnf) <;> rfl) (.cons (by (conv => lhs; whnf) <;> rfl) .nil))))))) (fun e_ => ?_)
      refine T.region ?_
      refine TL.cons rfl (V1.t (V1.move' (by (conv => lhs; whnf) <;> rfl)) ?_)
      refine TL.cons rfl (V1.t (V1.lenS ty_9 rfl) ?_)
      refine TL.cons rfl (V1.t (V1.move' (by (conv => lhs; whnf) <;> rfl)) ?_)
      refine TL.cons rfl (V1.t (V1.sub rfl rfl (wrap_i64 _ (by omega) (by omega))) ?_)
      refine TL.cons rfl (V1.t (V1.gtI (r := false) rfl rfl (decide_eq_false (by omega))) ?_)
      refine TL.nil ?_
      refine T.cond_f rfl ?_
      refine T.skip ?_
      refine T.region ?_
      refine TL.cons rfl (V1.t (V1.move' (by (conv => lhs; whnf) <;> rfl)) ?_)
      refine TL.cons rfl (V1.t (V1.move' (by (conv => lhs; whnf) <;> rfl)) ?_)
      refine TL.cons rfl (V1.t (V1.lenS ty_9 rfl) ?_)
      refine TL.cons rfl (V1.t (V1.add rfl rfl (wrap_i64 _ (by omega) (by omega))) ?_)
      refine TL.cons rfl (V1.t (V1.assign' (by (conv => lhs; whnf) <;> rfl)) ?_)
      refine TL.nil ?_
      refine T.region ?_
      refine TL.cons rfl (V1.t (V1.add rfl rfl (wrap_i64 _ (by omega) (by omega))) ?_)
      refine TL.cons rfl (V1.t (V1.move' (by (conv => lhs; whnf) <;> rfl)) ?_)
      refine TL.nil ?_
      refine TR.step ?_
      refine T.seq ?_
      refine T.region ?_
      refine TL.cons rfl (V1.t (V1.ltI rfl rfl (decide_eq_false (by omega))) ?_)
      ·
        refine TL.nil ?_
        refine T.seq ?_
        refine T.cond_f rfl ?_
        refine T.exit ?_
        refine T.seq ?_
        refine T.region ?_
        refine TL.cons rfl (T1.allocT 2 zr_56 rfl (fun b8 => ?_))
        refine TL.nil ?_
        refine T.seq ?_
        refine T.region ?_
        refine TL.cons rfl (V1.t (V1.move' (by (conv => lhs; whnf) <;> rfl)) ?_)
        refine TL.cons rfl (T1.callX (X := [⟨⟨b8, some 56⟩, 0, [.pointer none, .slice none 0 0], 2⟩]) has_30 rfl (Grow_any _ b8 (1 + p.length + q.length) (.pointer none) (.inl rfl) (by omega) (by omega)) (by repeat (first | exact Take.nil | apply Take.one (by repeat (first | exact Pick.here | apply Pick.there | apply Pick.far)) | apply Take.seg (by repeat (first | exact PickS.last | exact PickS.one | exact PickS.here | exact PickS.nil | apply PickS.there | apply PickS.far)) | exact Take.last (by repeat (first | exact PickS.last | exact PickS.one | exact PickS.here | exact PickS.nil | apply PickS.there | apply PickS.far)))) (fun v Z0 hZ0 => ?_))
        refine TL.nil ?_
        refine T.seq ?_
        refine T.live (l := [(0, _), (1, _), (8, _)]) (.cons (by (conv => lhs; whnf) <;> rfl) (.cons (by (conv => lhs; whnf) <;> rfl) (.cons (by (conv => lhs; whnf) <;> rfl) .nil))) (fun e_ => ?_)
        refine T.region ?_
        refine TL.cons rfl (V1.t (V1.move' (by (conv => lhs; whnf) <;> rfl)) ?_)
        refine TL.cons rfl (V1.t (V1.indexAddrS ty_50 sz_9 rfl rfl (by first | decide | omega) (by first | decide | omega)) ?_)
        refine TL.cons rfl (V1.t (V1.load1 one_9 rfl (.own (cells := [.string (bstr p), .string (bstr q)]) (by repeat (first | exact Find.here | assumption | apply Find.there | apply Find.far)) (by rfl))) ?_)
        refine TL.cons rfl (T1.callX (X := Z0) has_31 rfl (WriteString_any _ b8 ([]) p Z0 hZ0 (by simp only [List.length_append, List.length_singleton, List.length_nil]; omega)) (by repeat (first | exact Take.nil | apply Take.one (by repeat (first | exact Pick.here | apply Pick.there | apply Pick.far)) | apply Take.seg (by repeat (first | exact PickS.last | exact PickS.one | exact PickS.here | exact PickS.nil | apply PickS.there | apply PickS.far)) | exact Take.last (by repeat (first | exact PickS.last | exact PickS.one | exact PickS.here | exact PickS.nil | apply PickS.there | apply PickS.far)))) (fun v_ Z1 hZ1 => ?_))
        refine TL.nil ?_
        refine T.seq ?_
        refine T.seq ?_
        refine T.region ?_
        refine TL.cons rfl (V1.t (V1.move' (by (conv => lhs; whnf) <;> rfl)) ?_)
        refine TL.cons rfl (V1.t (V1.sliceSl ty_50 sz_9 rfl rfl rfl (by decide) (by decide) (by decide)) ?_)
        refine TL.cons rfl (V1.t (V1.lenSl ty_50 rfl) ?_)
        refine TL.cons rfl (V1.t (V1.move' (by (conv => lhs; whnf) <;> rfl)) ?_)
        refine TL.nil ?_
        refine T.block ?_
        refine T.rounds 2 (TR.step ?_)
        refine T.seq ?_
        refine T.region ?_
        refine TL.cons rfl (V1.t (V1.ltI rfl rfl (decide_eq_true (by omega))) ?_)
        ·
          refine TL.nil ?_
          refine T.seq ?_
          refine T.cond_t rfl ?_
          refine T.skip ?_
          refine T.seq ?_
          refine T.block ?_
          refine T.seq ?_
          refine T.region ?_
          refine TL.cons rfl (V1.t (V1.indexAddrS ty_50 sz_9 rfl rfl (by first | decide | omega) (by first | decide | omega)) ?_)
          refine TL.cons rfl (V1.t (V1.load1 one_9 rfl (.own (cells := [.string (bstr p), .string (bstr q)]) (by repeat (first | exact Find.here | assumption | apply Find.there | apply Find.far)) (by rfl))) ?_)
          refine TL.cons rfl (V1.t (V1.assign' (by (conv => lhs; whnf) <;> rfl)) ?_)
          refine TL.nil ?_
          refine T.seq ?_
          refine T.region ?_
          refine TL.cons rfl (V1.t (V1.move' (by (conv => lhs; whnf) <;> rfl)) ?_)
          refine TL.cons rfl (T1.callX (X := Z1) has_31 rfl (WriteString_any _ b8 ([] ++ p) [32] Z1 hZ1 (by simp only [List.length_append, List.length_singleton, List.length_nil]; omega)) (by repeat (first | exact Take.nil | apply Take.one (by repeat (first | exact Pick.here | apply Pick.there | apply Pick.far)) | apply Take.seg (by repeat (first | exact PickS.last | exact PickS.one | exact PickS.here | exact PickS.nil | apply PickS.there | apply PickS.far)) | exact Take.last (by repeat (first | exact PickS.last | exact PickS.one | exact PickS.here | exact PickS.nil | apply PickS.there | apply PickS.far)))) (fun v_ Z2 hZ2 => ?_))
          refine TL.nil ?_
          refine T.region ?_
          refine TL.cons rfl (V1.t (V1.move' (by (conv => lhs; whnf) <;> rfl)) ?_)
          refine TL.cons rfl (T1.callX (X := Z2) has_31 rfl (WriteString_any _ b8 ([] ++ p ++ [32]) q Z2 hZ2 (by simp only [List.length_append, List.length_singleton, List.length_nil]; omega)) (by repeat (first | exact Take.nil | apply Take.one (by repeat (first | exact Pick.here | apply Pick.there | apply Pick.far)) | apply Take.seg (by repeat (first | exact PickS.last | exact PickS.one | exact PickS.here | exact PickS.nil | apply PickS.there | apply PickS.far)) | exact Take.last (by repeat (first | exact PickS.last | exact PickS.one | exact PickS.here | exact PickS.nil | apply PickS.there | apply PickS.far)))) (fun v_ Z3 hZ3 => ?_))
          refine TL.nil ?_
          refine T.live (l := [(1, _), (8, _), (63, _), (64, _), (65, _)]) (.cons (by (conv => lhs; whnf) <;> rfl) (.cons (by (conv => lhs; whnf) <;> rfl) (.cons (by (conv => lhs; whnf) <;> rfl) (.cons (by (conv => lhs; whnf) <;> rfl) (.cons (by (conv => lhs; whnf) <;> rfl) .nil))))) (fun e_ => ?_)
          refine T.region ?_
          refine TL.cons rfl (V1.t (V1.add rfl rfl (wrap_i64 _ (by omega) (by omega))) ?_)
          refine TL.cons rfl (V1.t (V1.move' (by (conv => lhs; whnf) <;> rfl)) ?_)
          refine TL.nil ?_
          refine TR.step ?_
          refine T.seq ?_
          refine T.region ?_
          refine TL.cons rfl (V1.t (V1.ltI rfl rfl (decide_eq_false (by omega))) ?_)
          ·
            refine TL.nil ?_
            refine T.seq ?_
            refine T.cond_f rfl ?_
            refine T.exit ?_
            refine T.seq ?_
            refine T.region ?_
            refine TL.cons rfl (T1.callX (X := Z3) has_23 rfl (String_any _ b8 ([] ++ p ++ [32] ++ q) Z3 (hZ3.bb (by simp)) (by simp only [List.length_append, List.length_singleton, List.length_nil]; omega)) (by repeat (first | exact Take.nil | apply Take.one (by repeat (first | exact Pick.here | apply Pick.there | apply Pick.far)) | apply Take.seg (by repeat (first | exact PickS.last | exact PickS.one | exact PickS.here | exact PickS.nil | apply PickS.there | apply PickS.far)) | exact Take.last (by repeat (first | exact PickS.last | exact PickS.one | exact PickS.here | exact PickS.nil | apply PickS.there | apply PickS.far)))) (fun v_ Y_ hY_ => ?_))
            obtain ⟨rfl, hzz⟩ := hY_
            rw [hzz, List.nil_append]
            refine TL.cons rfl (V1.t (V1.assign' (by (conv => lhs; whnf) <;> rfl)) ?_)
            refine TL.nil ?_
            refine T.ret ?_
            exact ⟨_, (⟨b, 0, [.string (bstr p), .string (bstr q)], 2⟩ : Blk) :: G, _, .cons (.tmp (by (conv => lhs; whnf) <;> rfl)) .nil, (by repeat (first | exact Take.nil | apply Take.one (by repeat (first | exact Pick.here | apply Pick.there | apply Pick.far)) | apply Take.seg (by repeat (first | exact PickS.last | exact PickS.one | exact PickS.here | exact PickS.nil | apply PickS.there | apply PickS.far)) | exact Take.last (by repeat (first | exact PickS.last | exact PickS.one | exact PickS.here | exact PickS.nil | apply PickS.there | apply PickS.far)))), [(⟨b, 0, [.string (bstr p), .string (bstr q)], 2⟩ : Blk)], rfl, by rw [show p ++ [32] ++ q = p ++ 32 :: q from by simp]; rfl, rfl⟩

end Go.Proofs.Ytdgbckfnamiebaa.S
