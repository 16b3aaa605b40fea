/- Bytes that came in in parts: counted; cut. -/
import Derived.Test.YtelcmllfojfbfaaSC
import Derived.Test.YtelcmllfojfbfaaOpsB
import Derived.Test.YtelcmllfojfbfaaOpen4
namespace Go.Proofs.Ytelcmllfojfbfaa.S
open Go.RowKit

open Sh
theorem PartsIn.at {P : Program} {w0 : World} {a : Option Addr} {n c : Nat} {svs : List Value} {ps : List (List UInt8)} (h : PartsIn w0 (.slice a n c) svs ps) {k : Nat} (hk : k < ps.length) :
    ∃ b o sv p, a = some ⟨b, o, none⟩ ∧ ps[k]? = some p ∧ InR w0 sv p ∧ ∀ C : Ctx, C.w0 = w0 → C.M = [] → ∀ L, Rd C L ⟨b, o + k * 1, none⟩ sv := by
  have hsrc : ∀ C : Ctx, C.w0 = w0 → C.M = [] → ∀ L, Src C L 1 (.slice a n c) ps.length svs := fun C h0 hm L => by subst h0; exact h.all.src hm
  have hl := h.len
  have hsv : svs[k]? = some svs[k] := List.getElem?_eq_getElem (by omega)
  have hp : ps[k]? = some ps[k] := List.getElem?_eq_getElem hk
  obtain ⟨b, o, rfl⟩ : ∃ b o, a = some ⟨b, o, none⟩ := by
    rcases (hsrc ⟨P, w0, [], 0⟩ rfl rfl []).inv _ _ _ rfl with h0 | ⟨b, o, h0, _⟩
    · omega
    · exact ⟨b, o, h0⟩
  refine ⟨b, o, svs[k], ps[k], rfl, hp, h.each k _ _ hsv hp, fun C h0 hm L => ?_⟩
  rcases (hsrc C h0 hm L).inv _ _ _ rfl with h0 | ⟨b', o', h0, hr⟩
  · omega
  · cases h0
    rw [Nat.mul_one]
    exact hr k _ hsv
theorem three_parts {w0 : World} {Ps : List Blk} {v u x : Value} {p q r : List UInt8} (h : PartR w0 Ps v p) (g : PartR w0 Ps u q) (f : PartR w0 Ps x r) : ∀ (i : Nat) (sv : Value) (s : List UInt8), [v, u, x][i]? = some sv → [p, q, r][i]? = some s → PartR w0 Ps sv s := by
  intro i sv s h1 h2
  match i with
  | 0 => cases h1; cases h2; exact h
  | 1 => cases h1; cases h2; exact g
  | 2 => cases h1; cases h2; exact f
  | i + 3 => simp at h1
theorem three_len {p q r : List UInt8} {N : Nat} (h : p.length ≤ N) (g : q.length ≤ N) (f : r.length ≤ N) : ∀ s ∈ [p, q, r], s.length ≤ N := by
  intro s hs
  simp only [List.mem_cons, List.not_mem_nil, or_false] at hs
  rcases hs with rfl | rfl | rfl <;> assumption
theorem PartR.nought {w0 : World} {Ps : List Blk} : PartR w0 Ps (.slice none 0 0) [] := PartR.own (Ls := []) Sl.nil (fun _ h => by cases h)

set_option maxRecDepth 100000 in
theorem Count_any {w : Nat} (Tp : Sp w) (wv : BitVec w → Value) (w0 : World) (bh : Nat) (l : List UInt8) (X : List Blk) (hb : HB Tp wv bh l X) (hl : l.length < 4611686018427387904) : FnX P 31 [.pointer (some ⟨bh, 0, none⟩)] w0 [] X (fun v Y => v = .int .i64 (l.length : Int) ∧ Y = X) := by
  obtain ⟨s, Lr, rfl, hs⟩ := hb
  have hln : (BitVec.ofNat 64 l.length).toNat = l.length := by rw [BitVec.toNat_ofNat]; exact Nat.mod_eq_of_lt (by omega)
  refine FnX.of 8 [.tmp 2] Go.Proofs.Try.func31 rfl rfl rfl rfl (fun G => ?_)
  rw [List.cons_append]
  refine T.seq ?_
  refine T.region ?_
  refine TL.cons rfl (V1.t (V1.assign' (by (conv => lhs; whnf) <;> rfl)) ?_)
  refine TL.nil ?_
  refine T.seq ?_
  refine T.region ?_
  refine TL.cons rfl (V1.t (V1.move' (by (conv => lhs; whnf) <;> rfl)) ?_)
  refine TL.cons rfl (V1.t (V1.nilCheck rfl) ?_)
  refine TL.cons rfl (V1.t (V1.fieldAddr fl_48_1 rfl) ?_)
  refine TL.cons rfl (V1.t (V1.load1 one_46 rfl (.own (by repeat (first | exact Find.here | assumption | apply Find.there | apply Find.far)) (by rfl))) ?_)
  refine TL.cons rfl (V1.t (V1.conv (c := ((l.length : Nat) : Int)) ty_46 ty_3 rfl (by rw [hln]; exact wrap_i64 _ (by omega) (by omega))) ?_)
  refine TL.cons rfl (V1.t (V1.assign' (by (conv => lhs; whnf) <;> rfl)) ?_)
  refine TL.nil ?_
  refine T.ret ?_
  exact ⟨_, _ :: (Lr ++ G), _, .cons (.tmp (by (conv => lhs; whnf) <;> rfl)) .nil, (by repeat (first | exact Take.nil | apply Take.one (by repeat (first | exact Pick.here | apply Pick.there | apply Pick.far)) | apply Take.seg (by repeat (first | exact PickS.last | exact PickS.one | exact PickS.here | exact PickS.nil | apply PickS.there | apply PickS.far)) | exact Take.last (by repeat (first | exact PickS.last | exact PickS.one | exact PickS.here | exact PickS.nil | apply PickS.there | apply PickS.far)))), _ :: Lr, by rw [List.cons_append], rfl, rfl⟩

theorem cut_in (w0 : World) (v : Value) (l : List UInt8) (n : Nat) (w : World) (h : InR w0 v l) : Fn P 18 [v, .int .i64 (n : Int)] w [] (fun v Y => Y = [] ∧ InR w0 v (l.take n)) := by
  obtain ⟨va, vc, rfl⟩ := h.form
  refine Fn.of 11 [.tmp 4] Go.Proofs.Try.func18 rfl rfl rfl rfl ?_
  refine T.seq ?_
  refine T.region ?_
  refine TL.cons rfl (V1.t (V1.assign' (by (conv => lhs; whnf) <;> rfl)) ?_)
  refine TL.nil ?_
  refine T.seq ?_
  refine T.region ?_
  refine TL.cons rfl (V1.t (V1.move' (by (conv => lhs; whnf) <;> rfl)) ?_)
  refine TL.cons rfl (V1.t (V1.move' (by (conv => lhs; whnf) <;> rfl)) ?_)
  refine TL.cons rfl (V1.t (V1.lenSl ty_22 rfl) ?_)
  refine TL.cons rfl (V1.t (V1.move' (by (conv => lhs; whnf) <;> rfl)) ?_)
  refine TL.cons rfl (V1.t (V1.min2 (c := ((min l.length n : Nat) : Int)) rfl rfl (by omega)) ?_)
  refine TL.cons rfl (V1.t (V1.sliceIn ty_22 sz_5 h rfl 0 (min l.length n) rfl rfl (Nat.zero_le _) (Nat.min_le_left _ _)) ?_)
  refine TL.cons rfl (V1.t (V1.assign' (by (conv => lhs; whnf) <;> rfl)) ?_)
  refine TL.nil ?_
  refine T.ret ?_
  have hv := inV_is h 0 (min l.length n) (Nat.zero_le _) (Nat.min_le_left _ _)
  rw [Nat.sub_zero, List.drop_zero, show l.take (min l.length n) = l.take n from by rw [List.take_eq_take_iff]; omega] at hv
  exact ⟨_, [], _, .cons (.tmp (by (conv => lhs; whnf) <;> rfl)) .nil, Take.nil, rfl, hv⟩

end Go.Proofs.Ytelcmllfojfbfaa.S
