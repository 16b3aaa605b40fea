/- The document's way of reckoning the sums: its helpers. -/
import Derived.Test.YtmolpgnekcfimaaS3
namespace Go.Proofs.Ytmolpgnekcfimaa.S
open Go.RowKit

open Sh
theorem pw_ne {n : Nat} (h : n < 64) : (pw n).toNat ≠ 0 := by rw [pw_nat h]; exact Nat.ne_of_gt (Nat.two_pow_pos n)
theorem pw_succ (n : Nat) : pw n * 2#64 = pw (n + 1) := by
  unfold pw
  apply BitVec.eq_of_toNat_eq
  rw [BitVec.toNat_mul, BitVec.toNat_ofNat, BitVec.toNat_ofNat, BitVec.toNat_ofNat]
  have h : 2 ^ (n + 1) = 2 ^ n * 2 := Nat.pow_succ _ _
  rw [h]; omega
theorem Evs.consts {n : Nat} {e : Env} : ∀ vs : List Value, Evs n e (vs.map Operand.const) vs
  | [] => .nil
  | _ :: vs => .cons rfl (Evs.consts vs)

set_option maxRecDepth 100000 in
theorem power_any (n : Nat) (w : World) (hn : n < 9223372036854775807) : Fn P 43 [.int .i64 (n : Int)] w [] (fun v Y => Y = [] ∧ v = w64 (pw n)) := by
  refine Fn.of 13 [.tmp 2] Go.Proofs.Try.func43 rfl rfl rfl rfl ?_
  refine T.seq ?_
  refine T.region ?_
  refine TL.cons rfl (V1.t (V1.assign' (by (conv => lhs; whnf) <;> rfl)) ?_)
  refine TL.nil ?_
  refine T.seq ?_
  refine T.region ?_
  refine TL.cons rfl (V1.t (V1.assign' (by (conv => lhs; whnf) <;> rfl)) ?_)
  refine TL.nil ?_
  refine T.seq ?_
  refine T.seq ?_
  refine T.region ?_
  refine TL.cons rfl (V1.t (V1.assign' (by (conv => lhs; whnf) <;> rfl)) ?_)
  refine TL.nil ?_
  refine T.block ?_
  refine T.loopL (σ := Nat) (l0 := [(0, _)]) (fun x => [(4, .int .i64 (x : Nat)), (3, w64 (pw x))]) (fun x L => L = [] ∧ x ≤ n) (fun x => n - x) 0 (.cons rfl (.cons rfl .nil)) (.cons (by (conv => lhs; whnf) <;> rfl) .nil) (by repeat (first | exact Take.nil | apply Take.one (by repeat (first | exact Pick.here | apply Pick.there | apply Pick.far)) | apply Take.seg (by repeat (first | exact PickS.last | exact PickS.one | exact PickS.here | exact PickS.nil | apply PickS.there | apply PickS.far)) | exact Take.last (by repeat (first | exact PickS.last | exact PickS.one | exact PickS.here | exact PickS.nil | apply PickS.there | apply PickS.far)))) (⟨rfl, Nat.zero_le _⟩) ?_
  rintro x e_ L ⟨rfl, hx⟩
  refine T.seq ?_
  refine T.seq ?_
  refine T.region ?_
  refine TL.cons rfl (V1.t (V1.move' (by (conv => lhs; whnf) <;> rfl)) ?_)
  refine TL.cons rfl (V1.t (V1.move' (by (conv => lhs; whnf) <;> rfl)) ?_)
  refine TL.cons rfl (T1.ltI_split rfl rfl (fun h3_2 => ?_) (fun h3_2 => ?_))
  ·
    refine TL.nil ?_
    refine T.cond_t rfl ?_
    refine T.skip ?_
    refine T.seq ?_
    refine T.block ?_
    refine T.region ?_
    refine TL.cons rfl (V1.t (V1.move' (by (conv => lhs; whnf) <;> rfl)) ?_)
    refine TL.cons rfl (V1.t (V1.mulW (b := 2#64) u64U rfl rfl) ?_)
    refine TL.cons rfl (V1.t (V1.assign' (by (conv => lhs; whnf) <;> rfl)) ?_)
    refine TL.nil ?_
    refine T.region ?_
    refine TL.cons rfl (V1.t (V1.move' (by (conv => lhs; whnf) <;> rfl)) ?_)
    refine TL.cons rfl (V1.t (V1.add rfl rfl (wrap_i64 _ (by omega) (by omega))) ?_)
    refine TL.cons rfl (V1.t (V1.assign' (by (conv => lhs; whnf) <;> rfl)) ?_)
    refine TL.nil ?_
    exact ⟨x + 1, _, _, (by simp only; omega), (.cons rfl (.cons (congrArg w64 (pw_succ x)) .nil)), (.cons rfl .nil), (by repeat (first | exact Take.nil | apply Take.one (by repeat (first | exact Pick.here | apply Pick.there | apply Pick.far)) | apply Take.seg (by repeat (first | exact PickS.last | exact PickS.one | exact PickS.here | exact PickS.nil | apply PickS.there | apply PickS.far)) | exact Take.last (by repeat (first | exact PickS.last | exact PickS.one | exact PickS.here | exact PickS.nil | apply PickS.there | apply PickS.far)))), ⟨rfl, by omega⟩⟩
  ·
    refine TL.nil ?_
    refine T.cond_f rfl ?_
    refine T.exit ?_
    refine T.seq ?_
    refine T.region ?_
    refine TL.cons rfl (V1.t (V1.move' (by (conv => lhs; whnf) <;> rfl)) ?_)
    refine TL.cons rfl (V1.t (V1.assign' (by (conv => lhs; whnf) <;> rfl)) ?_)
    refine TL.nil ?_
    refine T.ret ?_
    obtain rfl : x = n := by omega
    exact ⟨_, [], _, .cons (.tmp (by (conv => lhs; whnf) <;> rfl)) .nil, Take.nil, rfl, rfl⟩

set_option maxRecDepth 100000 in
theorem mixed_any (a b c : BitVec 64) (w : World) : Fn P 41 [w64 a, w64 b, w64 c] w [] (fun v Y => Y = [] ∧ v = w64 (a ^^^ b ^^^ c)) := by
  refine Fn.of 12 [.tmp 6] Go.Proofs.Try.func41 rfl rfl rfl rfl ?_
  refine T.seq ?_
  refine T.region ?_
  refine TL.cons rfl (V1.t (V1.assign' (by (conv => lhs; whnf) <;> rfl)) ?_)
  refine TL.nil ?_
  refine T.seq ?_
  refine T.region ?_
  refine TL.cons rfl (V1.t (V1.move' (by (conv => lhs; whnf) <;> rfl)) ?_)
  refine TL.cons rfl (V1.t (V1.move' (by (conv => lhs; whnf) <;> rfl)) ?_)
  refine TL.cons rfl (V1.t (V1.xorW u64U rfl rfl) ?_)
  refine TL.cons rfl (V1.t (V1.move' (by (conv => lhs; whnf) <;> rfl)) ?_)
  refine TL.cons rfl (V1.t (V1.xorW u64U rfl rfl) ?_)
  refine TL.cons rfl (V1.t (V1.assign' (by (conv => lhs; whnf) <;> rfl)) ?_)
  refine TL.nil ?_
  refine T.ret ?_
  exact ⟨_, [], _, .cons (.tmp (by (conv => lhs; whnf) <;> rfl)) .nil, Take.nil, rfl, rfl⟩

set_option maxRecDepth 100000 in
theorem turn_any (x : BitVec 64) (n W : Nat) (w : World) (hn : n < 64) (hW : n ≤ W ∧ W ≤ 64) : Fn P 42 [w64 x, .int .i64 (n : Int), .int .i64 (W : Int)] w [] (fun v Y => Y = [] ∧ v = w64 (turnR W x n)) := by
  refine Fn.of 33 [.tmp 6] Go.Proofs.Try.func42 rfl rfl rfl rfl ?_
  refine T.seq ?_
  refine T.region ?_
  refine TL.cons rfl (V1.t (V1.assign' (by (conv => lhs; whnf) <;> rfl)) ?_)
  refine TL.nil ?_
  refine T.seq ?_
  refine T.seq ?_
  refine T.region ?_
  refine TL.cons rfl (V1.t (V1.move' (by (conv => lhs; whnf) <;> rfl)) ?_)
  refine TL.cons rfl (T1.eqI_split rfl rfl (fun h1_1 => ?_) (fun h1_1 => ?_))
  ·
    obtain rfl : W = 64 := by omega
    refine TL.nil ?_
    refine T.cond_t rfl ?_
    refine T.seq ?_
    refine T.drawDet' mixed (by decide +kernel) ?_
    refine Det.cons 0 (ins := [(0, _)]) (.old (by (conv => lhs; whnf) <;> rfl) (by decide +kernel) .nil) (fun e_ => .inl ⟨rfl, V1.t (V1.move' (by (conv => lhs; whnf) <;> rfl)) ⟨rfl, rfl⟩⟩) ?_
    refine Det.cons 1 (ins := [(1, _)]) (.old (by (conv => lhs; whnf) <;> rfl) (by decide +kernel) .nil) (fun e_ => .inl ⟨rfl, V1.t (V1.move' (by (conv => lhs; whnf) <;> rfl)) ⟨rfl, rfl⟩⟩) ?_
    refine Det.cons 2 (ins := [(10, _)]) (v := w64 (pw (n))) (.new 1 0 (by decide +kernel) rfl rfl .nil) (fun e_ => .inl ⟨rfl, ?_⟩) ?_
    · refine T1.call0 has_43 rfl (fun w hs => power_any (n) w (by omega)) (fun v hv => ?_)
      subst hv
      exact ⟨rfl, rfl⟩
    refine Det.cons 3 (ins := [(9, _), (11, _)]) (.new 0 2 (by decide +kernel) rfl rfl (.new 2 0 (by decide +kernel) rfl rfl .nil)) (fun e_ => .inl ⟨rfl, V1.t (V1.quoW u64U rfl rfl (pw_ne hn)) ⟨rfl, rfl⟩⟩) ?_
    refine Det.cons 4 (ins := [(0, _)]) (.old (by (conv => lhs; whnf) <;> rfl) (by decide +kernel) .nil) (fun e_ => .inl ⟨rfl, V1.t (V1.move' (by (conv => lhs; whnf) <;> rfl)) ⟨rfl, rfl⟩⟩) ?_
    refine Det.cons 5 (ins := [(1, _)]) (.old (by (conv => lhs; whnf) <;> rfl) (by decide +kernel) .nil) (fun e_ => .inl ⟨rfl, V1.t (V1.move' (by (conv => lhs; whnf) <;> rfl)) ⟨rfl, rfl⟩⟩) ?_
    refine Det.cons 6 (ins := [(14, _)]) (.new 5 0 (by decide +kernel) rfl rfl .nil) (fun e_ => .inl ⟨rfl, V1.t (V1.sub (c := ((64 - n : Nat) : Int)) rfl rfl (by rw [wrap_i64 _ (by omega) (by omega)]; omega)) ⟨rfl, rfl⟩⟩) ?_
    refine Det.cons 7 (ins := [(15, _)]) (v := w64 (pw (64 - n))) (.new 6 0 (by decide +kernel) rfl rfl .nil) (fun e_ => .inl ⟨rfl, ?_⟩) ?_
    · refine T1.call0 has_43 rfl (fun w hs => power_any (64 - n) w (by omega)) (fun v hv => ?_)
      subst hv
      exact ⟨rfl, rfl⟩
    refine Det.cons 8 (ins := [(13, _), (16, _)]) (.new 4 3 (by decide +kernel) rfl rfl (.new 7 0 (by decide +kernel) rfl rfl .nil)) (fun e_ => .inl ⟨rfl, V1.t (V1.mulW u64U rfl rfl) ⟨rfl, rfl⟩⟩) ?_
    refine Det.cons 9 (ins := [(12, _), (17, _)]) (.new 3 5 (by decide +kernel) rfl rfl (.new 8 0 (by decide +kernel) rfl rfl .nil)) (fun e_ => .inl ⟨rfl, V1.t (V1.addW u64U rfl rfl) ⟨rfl, rfl⟩⟩) ?_
    refine Det.cons 10 (ins := [(18, _)]) (.new 9 0 (by decide +kernel) rfl rfl .nil) (fun e_ => .inl ⟨rfl, V1.t (V1.assign' (by (conv => lhs; whnf) <;> rfl)) ⟨rfl, rfl⟩⟩) ?_
    refine Det.nil 11 (l := [(6, _)]) (.new 10 0 (by decide +kernel) rfl rfl .nil) (fun e_ => ?_)
    refine T.ret ?_
    exact ⟨_, [], _, .cons (.tmp (by (conv => lhs; whnf) <;> rfl)) .nil, Take.nil, rfl, by unfold turnR; rw [if_pos rfl]; rfl⟩
  ·
    refine TL.nil ?_
    refine T.cond_f rfl ?_
    refine T.skip ?_
    refine T.seq ?_
    refine T.drawDet' mixed (by decide +kernel) ?_
    refine Det.cons 0 (ins := [(0, _)]) (.old (by (conv => lhs; whnf) <;> rfl) (by decide +kernel) .nil) (fun e_ => .inl ⟨rfl, V1.t (V1.move' (by (conv => lhs; whnf) <;> rfl)) ⟨rfl, rfl⟩⟩) ?_
    refine Det.cons 1 (ins := [(1, _)]) (.old (by (conv => lhs; whnf) <;> rfl) (by decide +kernel) .nil) (fun e_ => .inl ⟨rfl, V1.t (V1.move' (by (conv => lhs; whnf) <;> rfl)) ⟨rfl, rfl⟩⟩) ?_
    refine Det.cons 2 (ins := [(20, _)]) (v := w64 (pw (n))) (.new 1 0 (by decide +kernel) rfl rfl .nil) (fun e_ => .inl ⟨rfl, ?_⟩) ?_
    · refine T1.call0 has_43 rfl (fun w hs => power_any (n) w (by omega)) (fun v hv => ?_)
      subst hv
      exact ⟨rfl, rfl⟩
    refine Det.cons 3 (ins := [(19, _), (21, _)]) (.new 0 2 (by decide +kernel) rfl rfl (.new 2 0 (by decide +kernel) rfl rfl .nil)) (fun e_ => .inl ⟨rfl, V1.t (V1.quoW u64U rfl rfl (pw_ne hn)) ⟨rfl, rfl⟩⟩) ?_
    refine Det.cons 4 (ins := [(0, _)]) (.old (by (conv => lhs; whnf) <;> rfl) (by decide +kernel) .nil) (fun e_ => .inl ⟨rfl, V1.t (V1.move' (by (conv => lhs; whnf) <;> rfl)) ⟨rfl, rfl⟩⟩) ?_
    refine Det.cons 5 (ins := [(1, _)]) (.old (by (conv => lhs; whnf) <;> rfl) (by decide +kernel) .nil) (fun e_ => .inl ⟨rfl, V1.t (V1.move' (by (conv => lhs; whnf) <;> rfl)) ⟨rfl, rfl⟩⟩) ?_
    refine Det.cons 6 (ins := [(24, _)]) (v := w64 (pw (n))) (.new 5 0 (by decide +kernel) rfl rfl .nil) (fun e_ => .inl ⟨rfl, ?_⟩) ?_
    · refine T1.call0 has_43 rfl (fun w hs => power_any (n) w (by omega)) (fun v hv => ?_)
      subst hv
      exact ⟨rfl, rfl⟩
    refine Det.cons 7 (ins := [(23, _), (25, _)]) (.new 4 2 (by decide +kernel) rfl rfl (.new 6 0 (by decide +kernel) rfl rfl .nil)) (fun e_ => .inl ⟨rfl, V1.t (V1.remW rfl rfl (pw_ne hn)) ⟨rfl, rfl⟩⟩) ?_
    refine Det.cons 8 (ins := [(2, _)]) (.old (by (conv => lhs; whnf) <;> rfl) (by decide +kernel) .nil) (fun e_ => .inl ⟨rfl, V1.t (V1.move' (by (conv => lhs; whnf) <;> rfl)) ⟨rfl, rfl⟩⟩) ?_
    refine Det.cons 9 (ins := [(1, _)]) (.old (by (conv => lhs; whnf) <;> rfl) (by decide +kernel) .nil) (fun e_ => .inl ⟨rfl, V1.t (V1.move' (by (conv => lhs; whnf) <;> rfl)) ⟨rfl, rfl⟩⟩) ?_
    refine Det.cons 10 (ins := [(27, _), (28, _)]) (.new 8 1 (by decide +kernel) rfl rfl (.new 9 0 (by decide +kernel) rfl rfl .nil)) (fun e_ => .inl ⟨rfl, V1.t (V1.sub (c := ((W - n : Nat) : Int)) rfl rfl (by rw [wrap_i64 _ (by omega) (by omega)]; omega)) ⟨rfl, rfl⟩⟩) ?_
    refine Det.cons 11 (ins := [(29, _)]) (v := w64 (pw (W - n))) (.new 10 0 (by decide +kernel) rfl rfl .nil) (fun e_ => .inl ⟨rfl, ?_⟩) ?_
    · refine T1.call0 has_43 rfl (fun w hs => power_any (W - n) w (by omega)) (fun v hv => ?_)
      subst hv
      exact ⟨rfl, rfl⟩
    refine Det.cons 12 (ins := [(26, _), (30, _)]) (.new 7 4 (by decide +kernel) rfl rfl (.new 11 0 (by decide +kernel) rfl rfl .nil)) (fun e_ => .inl ⟨rfl, V1.t (V1.mulW u64U rfl rfl) ⟨rfl, rfl⟩⟩) ?_
    refine Det.cons 13 (ins := [(22, _), (31, _)]) (.new 3 9 (by decide +kernel) rfl rfl (.new 12 0 (by decide +kernel) rfl rfl .nil)) (fun e_ => .inl ⟨rfl, V1.t (V1.addW u64U rfl rfl) ⟨rfl, rfl⟩⟩) ?_
    refine Det.cons 14 (ins := [(32, _)]) (.new 13 0 (by decide +kernel) rfl rfl .nil) (fun e_ => .inl ⟨rfl, V1.t (V1.assign' (by (conv => lhs; whnf) <;> rfl)) ⟨rfl, rfl⟩⟩) ?_
    refine Det.nil 15 (l := [(6, _)]) (.new 14 0 (by decide +kernel) rfl rfl .nil) (fun e_ => ?_)
    refine T.ret ?_
    exact ⟨_, [], _, .cons (.tmp (by (conv => lhs; whnf) <;> rfl)) .nil, Take.nil, rfl, by unfold turnR; rw [if_neg (by omega)]; rfl⟩

set_option maxRecDepth 100000 in
theorem keep_any (x : BitVec 64) (W : Nat) (w : World) (hW : W ≤ 64) : Fn P 44 [w64 x, .int .i64 (W : Int)] w [] (fun v Y => Y = [] ∧ v = w64 (keepR W x)) := by
  refine Fn.of 12 [.tmp 4] Go.Proofs.Try.func44 rfl rfl rfl rfl ?_
  refine T.seq ?_
  refine T.region ?_
  refine TL.cons rfl (V1.t (V1.assign' (by (conv => lhs; whnf) <;> rfl)) ?_)
  refine TL.nil ?_
  refine T.seq ?_
  refine T.seq ?_
  refine T.region ?_
  refine TL.cons rfl (V1.t (V1.move' (by (conv => lhs; whnf) <;> rfl)) ?_)
  refine TL.cons rfl (T1.eqI_split rfl rfl (fun h1_1 => ?_) (fun h1_1 => ?_))
  ·
    obtain rfl : W = 64 := by omega
    refine TL.nil ?_
    refine T.cond_t rfl ?_
    refine T.seq ?_
    refine T.region ?_
    refine TL.cons rfl (V1.t (V1.move' (by (conv => lhs; whnf) <;> rfl)) ?_)
    refine TL.cons rfl (V1.t (V1.assign' (by (conv => lhs; whnf) <;> rfl)) ?_)
    refine TL.nil ?_
    refine T.ret ?_
    exact ⟨_, [], _, .cons (.tmp (by (conv => lhs; whnf) <;> rfl)) .nil, Take.nil, rfl, by unfold keepR; rw [if_pos rfl]; rfl⟩
  ·
    refine TL.nil ?_
    refine T.cond_f rfl ?_
    refine T.skip ?_
    refine T.seq ?_
    refine T.region ?_
    refine TL.cons rfl (V1.t (V1.move' (by (conv => lhs; whnf) <;> rfl)) ?_)
    refine TL.cons rfl (V1.t (V1.move' (by (conv => lhs; whnf) <;> rfl)) ?_)
    refine TL.cons rfl (T1.call0 has_43 rfl (fun w hs => power_any W w (by omega)) (fun v hv => ?_))
    subst hv
    refine TL.cons rfl (V1.t (V1.remW rfl rfl (pw_ne (by omega))) ?_)
    refine TL.cons rfl (V1.t (V1.assign' (by (conv => lhs; whnf) <;> rfl)) ?_)
    refine TL.nil ?_
    refine T.ret ?_
    exact ⟨_, [], _, .cons (.tmp (by (conv => lhs; whnf) <;> rfl)) .nil, Take.nil, rfl, by unfold keepR; rw [if_neg (by omega)]; rfl⟩

set_option maxRecDepth 100000 in
theorem Table_any (w : World) : Fn P 40 [] w [] (fun v Y => ∃ b, v = .slice (some ⟨b, 0, none⟩) 80 80 ∧ Y = [⟨b, 0, tableV, 80⟩]) := by
  refine Fn.of 2 [.tmp 0] Go.Proofs.Try.func40 rfl rfl rfl rfl ?_
  refine T.seq ?_
  refine T.region ?_
  refine TL.cons rfl (V1.t (V1.assign' (by (conv => lhs; whnf) <;> rfl)) ?_)
  refine TL.nil ?_
  refine T.seq ?_
  refine T.region ?_
  refine TL.cons rfl (T1.buildSl1 (os := tableV.map Operand.const) (vs := tableV) ty_93 sz_32 zr_32 (by decide) (by kernel_rfl) (Evs.consts _) (by kernel_rfl) (by intro u hu; obtain ⟨k, _, rfl⟩ := List.mem_map.1 hu; rfl) (fun b1 => ?_))
  refine TL.cons rfl (V1.t (V1.assign' (by (conv => lhs; whnf) <;> rfl)) ?_)
  refine TL.nil ?_
  refine T.ret ?_
  exact ⟨_, [⟨b1, 0, tableV, 80⟩], _, .cons (.tmp (by (conv => lhs; whnf) <;> rfl)) .nil, (by repeat (first | exact Take.nil | apply Take.one (by repeat (first | exact Pick.here | apply Pick.there | apply Pick.far)) | apply Take.seg (by repeat (first | exact PickS.last | exact PickS.one | exact PickS.here | exact PickS.nil | apply PickS.there | apply PickS.far)) | exact Take.last (by repeat (first | exact PickS.last | exact PickS.one | exact PickS.here | exact PickS.nil | apply PickS.there | apply PickS.far)))), b1, rfl, rfl⟩

end Go.Proofs.Ytmolpgnekcfimaa.S
