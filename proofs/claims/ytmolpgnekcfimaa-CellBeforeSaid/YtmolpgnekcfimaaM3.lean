/- The known sum with a key; two lists of bytes held against one another. -/
import Derived.Test.YtmolpgnekcfimaaSB
namespace Go.Proofs.Ytmolpgnekcfimaa.S
open Go.RowKit

open Sh
theorem or_xor {x : BitVec 8} {a b : UInt8} : (x ||| (a.toBitVec ^^^ b.toBitVec)) = 0#8 ↔ x = 0#8 ∧ a = b := by
  constructor
  · intro h
    have h1 : ∀ i : Nat, (hi : i < 8) → x[i] = false ∧ a.toBitVec[i] = b.toBitVec[i] := by
      intro i hi
      have := congrArg (fun z : BitVec 8 => z[i]) h
      simp only [BitVec.getElem_or, BitVec.getElem_xor, BitVec.getElem_zero] at this
      revert this
      cases x[i] <;> cases a.toBitVec[i] <;> cases b.toBitVec[i] <;> simp
    refine ⟨?_, ?_⟩
    · ext i hi; rw [(h1 i hi).1]; simp
    · apply UInt8.eq_of_toBitVec_eq
      ext i hi; exact (h1 i hi).2
  · rintro ⟨rfl, rfl⟩
    simp
theorem eq_step {p q : List UInt8} {i : Nat} {x y : UInt8} {z : BitVec 8} (hx : p[i]? = some x) (hy : q[i]? = some y) (h : z = 0#8 ↔ p.take i = q.take i) : (z ||| (x.toBitVec ^^^ y.toBitVec)) = 0#8 ↔ p.take (i + 1) = q.take (i + 1) := by
  rw [or_xor, h, List.take_add_one, List.take_add_one, hx, hy]
  constructor
  · rintro ⟨h1, rfl⟩; rw [h1]
  · intro h1
    have hl : (p.take i).length = (q.take i).length := by
      have e := congrArg List.length h1
      simp only [List.length_append, Option.toList_some, List.length_singleton] at e; omega
    have h2 := List.append_inj h1 hl
    exact ⟨h2.1, by simpa using h2.2⟩

set_option maxRecDepth 100000 in
set_option maxHeartbeats 1000000 in
theorem Equal_any (w0 : World) (av bv : Value) (p q : List UInt8) (Ps : List Blk) (hp : PartR w0 Ps av p) (hq : PartR w0 Ps bv q) (hl : p.length < 9223372036854775807) : FnX P 27 [av, bv] w0 [] Ps (fun v Y => v = .bool (decide (p = q)) ∧ Y = Ps) := by
  obtain ⟨pa, pc, rfl⟩ := hp.form
  obtain ⟨qa, qc, rfl⟩ := hq.form
  refine FnX.of 31 [.tmp 4] Go.Proofs.Try.func27 rfl rfl rfl rfl (fun G => ?_)
  refine T.seq ?_
  refine T.region ?_
  refine TL.cons rfl (V1.t (V1.assign' (by (conv => lhs; whnf) <;> rfl)) ?_)
  refine TL.nil ?_
  refine T.seq ?_
  refine T.seq ?_
  refine T.region ?_
  refine TL.cons rfl (V1.t (V1.move' (by (conv => lhs; whnf) <;> rfl)) ?_)
  refine TL.cons rfl (V1.t (V1.lenSl ty_33 rfl) ?_)
  refine TL.cons rfl (V1.t (V1.move' (by (conv => lhs; whnf) <;> rfl)) ?_)
  refine TL.cons rfl (V1.t (V1.lenSl ty_33 rfl) ?_)
  refine TL.cons rfl (T1.neI_split rfl rfl (fun h1_4 => ?_) (fun h1_4 => ?_))
  ·
    refine TL.nil ?_
    refine T.cond_t rfl ?_
    refine T.seq ?_
    refine T.region ?_
    refine TL.cons rfl (V1.t (V1.assign' (by (conv => lhs; whnf) <;> rfl)) ?_)
    refine TL.nil ?_
    refine T.ret ?_
    exact ⟨_, Ps ++ G, _, .cons (.tmp (by (conv => lhs; whnf) <;> rfl)) .nil, (by repeat (first | exact Take.nil | apply Take.one (by repeat (first | exact Pick.here | apply Pick.there | apply Pick.far)) | apply Take.seg (by repeat (first | exact PickS.last | exact PickS.one | exact PickS.here | exact PickS.nil | apply PickS.there | apply PickS.far)) | exact Take.last (by repeat (first | exact PickS.last | exact PickS.one | exact PickS.here | exact PickS.nil | apply PickS.there | apply PickS.far)))), Ps, rfl, (by rw [decide_eq_false (fun h => h1_4 (by rw [h]))]; rfl), rfl⟩
  ·
    refine TL.nil ?_
    refine T.cond_f rfl ?_
    refine T.skip ?_
    refine T.seq ?_
    refine T.region ?_
    refine TL.cons rfl (V1.t (V1.assign' (v := .int .u8 ((0#8).toNat : Int)) rfl) ?_)
    refine TL.nil ?_
    refine T.seq ?_
    refine T.seq ?_
    refine T.region ?_
    refine TL.cons rfl (V1.t (V1.move' (by (conv => lhs; whnf) <;> rfl)) ?_)
    refine TL.cons rfl (V1.t (V1.lenSl ty_33 rfl) ?_)
    refine TL.cons rfl (V1.t (V1.move' (by (conv => lhs; whnf) <;> rfl)) ?_)
    refine TL.nil ?_
    refine T.block ?_
    refine T.loopL (σ := Nat × BitVec 8) (l0 := [(0, _), (1, _), (13, _)]) (fun x => [(14, .int .i64 (x.1 : Nat)), (5, .int .u8 (x.2.toNat : Int))]) (fun x L => L = Ps ++ G ∧ (x.2 = 0#8 ↔ p.take x.1 = q.take x.1) ∧ x.1 ≤ p.length) (fun x => p.length - x.1) (0, 0#8) (.cons rfl (.cons rfl .nil)) (.cons (by (conv => lhs; whnf) <;> rfl) (.cons (by (conv => lhs; whnf) <;> rfl) (.cons (by (conv => lhs; whnf) <;> rfl) .nil))) (by repeat (first | exact Take.nil | apply Take.one (by repeat (first | exact Pick.here | apply Pick.there | apply Pick.far)) | apply Take.seg (by repeat (first | exact PickS.last | exact PickS.one | exact PickS.here | exact PickS.nil | apply PickS.there | apply PickS.far)) | exact Take.last (by repeat (first | exact PickS.last | exact PickS.one | exact PickS.here | exact PickS.nil | apply PickS.there | apply PickS.far)))) (⟨rfl, by simp, Nat.zero_le _⟩) ?_
    rintro ⟨i, z⟩ e_ L ⟨rfl, hz, hi⟩
    simp only at hz hi
    refine T.seq ?_
    refine T.region ?_
    refine TL.cons rfl (T1.ltI_split rfl rfl (fun h5_0 => ?_) (fun h5_0 => ?_))
    ·
      simp only at h5_0
      obtain ⟨x, hx⟩ : ∃ x, p[i]? = some x := ⟨_, List.getElem?_eq_getElem (by omega)⟩
      obtain ⟨y, hy⟩ : ∃ y, q[i]? = some y := ⟨_, List.getElem?_eq_getElem (by omega)⟩
      obtain ⟨ba, oa, rfl, hra⟩ := hp.byte (C := ⟨P, w0, [], 31⟩) rfl rfl (L := Ps ++ G) (by intro B hB; simp [hB]) hx
      obtain ⟨bb, ob, rfl, hrb⟩ := hq.byte (C := ⟨P, w0, [], 31⟩) rfl rfl (L := Ps ++ G) (by intro B hB; simp [hB]) hy
      refine TL.nil ?_
      refine T.seq ?_
      refine T.cond_t rfl ?_
      refine T.skip ?_
      refine T.seq ?_
      refine T.block ?_
      refine T.seq ?_
      refine T.region ?_
      refine TL.cons rfl (V1.t (V1.move' (by (conv => lhs; whnf) <;> rfl)) ?_)
      refine TL.cons rfl (V1.t (V1.assign' (by (conv => lhs; whnf) <;> rfl)) ?_)
      refine TL.nil ?_
      refine T.drawDet' mixed (by decide +kernel) ?_
      refine Det.cons 0 (ins := [(5, _)]) (.old (by (conv => lhs; whnf) <;> rfl) (by decide +kernel) .nil) (fun e_ => .inl ⟨rfl, V1.t (V1.move' (by (conv => lhs; whnf) <;> rfl)) ⟨rfl, rfl⟩⟩) ?_
      refine Det.cons 1 (ins := [(0, _)]) (.old (by (conv => lhs; whnf) <;> rfl) (by decide +kernel) .nil) (fun e_ => .inl ⟨rfl, V1.t (V1.move' (by (conv => lhs; whnf) <;> rfl)) ⟨rfl, rfl⟩⟩) ?_
      refine Det.cons 2 (ins := [(6, _)]) (.old (by (conv => lhs; whnf) <;> rfl) (by decide +kernel) .nil) (fun e_ => .inl ⟨rfl, V1.t (V1.move' (by (conv => lhs; whnf) <;> rfl)) ⟨rfl, rfl⟩⟩) ?_
      refine Det.cons 3 (ins := [(18, _), (19, _)]) (.new 1 1 (by decide +kernel) rfl rfl (.new 2 0 (by decide +kernel) rfl rfl .nil)) (fun e_ => .inl ⟨rfl, V1.t (V1.indexAddrS ty_33 sz_5 rfl rfl (by omega) (by omega)) ⟨rfl, rfl⟩⟩) ?_
      refine Det.cons 4 (ins := [(20, _)]) (.new 3 0 (by decide +kernel) rfl rfl .nil) (fun e_ => .inl ⟨rfl, V1.t (V1.load1 one_5 rfl hra) ⟨rfl, rfl⟩⟩) ?_
      refine Det.cons 5 (ins := [(1, _)]) (.old (by (conv => lhs; whnf) <;> rfl) (by decide +kernel) .nil) (fun e_ => .inl ⟨rfl, V1.t (V1.move' (by (conv => lhs; whnf) <;> rfl)) ⟨rfl, rfl⟩⟩) ?_
      refine Det.cons 6 (ins := [(6, _)]) (.old (by (conv => lhs; whnf) <;> rfl) (by decide +kernel) .nil) (fun e_ => .inl ⟨rfl, V1.t (V1.move' (by (conv => lhs; whnf) <;> rfl)) ⟨rfl, rfl⟩⟩) ?_
      refine Det.cons 7 (ins := [(22, _), (23, _)]) (.new 5 1 (by decide +kernel) rfl rfl (.new 6 0 (by decide +kernel) rfl rfl .nil)) (fun e_ => .inl ⟨rfl, V1.t (V1.indexAddrS ty_33 sz_5 rfl rfl (by omega) (by omega)) ⟨rfl, rfl⟩⟩) ?_
      refine Det.cons 8 (ins := [(24, _)]) (.new 7 0 (by decide +kernel) rfl rfl .nil) (fun e_ => .inl ⟨rfl, V1.t (V1.load1 one_5 rfl hrb) ⟨rfl, rfl⟩⟩) ?_
      refine Det.cons 9 (ins := [(21, _), (25, _)]) (.new 4 4 (by decide +kernel) rfl rfl (.new 8 0 (by decide +kernel) rfl rfl .nil)) (fun e_ => .inl ⟨rfl, V1.t (V1.xorW (a := x.toBitVec) (b := y.toBitVec) u8U rfl rfl) ⟨rfl, rfl⟩⟩) ?_
      refine Det.cons 10 (ins := [(17, _), (26, _)]) (.new 0 9 (by decide +kernel) rfl rfl (.new 9 0 (by decide +kernel) rfl rfl .nil)) (fun e_ => .inl ⟨rfl, V1.t (V1.orW (a := z) (b := x.toBitVec ^^^ y.toBitVec) u8U rfl rfl) ⟨rfl, rfl⟩⟩) ?_
      refine Det.cons 11 (ins := [(27, _)]) (.new 10 0 (by decide +kernel) rfl rfl .nil) (fun e_ => .inl ⟨rfl, V1.t (V1.assign' (by (conv => lhs; whnf) <;> rfl)) ⟨rfl, rfl⟩⟩) ?_
      refine Det.nil 12 (l := [(0, _), (1, _), (5, _), (13, _), (14, _)]) (.old (by (conv => lhs; whnf) <;> rfl) (by decide +kernel) (.old (by (conv => lhs; whnf) <;> rfl) (by decide +kernel) (.new 11 0 (by decide +kernel) rfl rfl (.old (by (conv => lhs; whnf) <;> rfl) (by decide +kernel) (.old (by (conv => lhs; whnf) <;> rfl) (by decide +kernel) .nil))))) (fun e_ => ?_)
      refine T.region ?_
      refine TL.cons rfl (V1.t (V1.add rfl rfl (wrap_i64 _ (by omega) (by omega))) ?_)
      refine TL.cons rfl (V1.t (V1.move' (by (conv => lhs; whnf) <;> rfl)) ?_)
      refine TL.nil ?_
      exact ⟨(i + 1, z ||| (x.toBitVec ^^^ y.toBitVec)), _, _, (by simp only; omega), (.cons rfl (.cons rfl .nil)), (.cons rfl (.cons rfl (.cons rfl .nil))), (by repeat (first | exact Take.nil | apply Take.one (by repeat (first | exact Pick.here | apply Pick.there | apply Pick.far)) | apply Take.seg (by repeat (first | exact PickS.last | exact PickS.one | exact PickS.here | exact PickS.nil | apply PickS.there | apply PickS.far)) | exact Take.last (by repeat (first | exact PickS.last | exact PickS.one | exact PickS.here | exact PickS.nil | apply PickS.there | apply PickS.far)))), ⟨rfl, eq_step hx hy hz, by simp only; omega⟩⟩
    ·
      simp only at h5_0
      obtain rfl : i = p.length := by omega
      refine TL.nil ?_
      refine T.seq ?_
      refine T.cond_f rfl ?_
      refine T.exit ?_
      refine T.seq ?_
      refine T.region ?_
      refine TL.cons rfl (V1.t (V1.move' (by (conv => lhs; whnf) <;> rfl)) ?_)
      refine TL.cons rfl (V1.t (V1.eqI (r := decide (p = q)) rfl rfl (by rw [decide_eq_decide]; rw [List.take_of_length_le (Nat.le_refl _), List.take_of_length_le (by omega)] at hz; rw [← hz]; exact ⟨fun h => BitVec.eq_of_toNat_eq (by have h2 : (z.toNat : Int) = 0 := h; rw [show (0#8).toNat = 0 from rfl]; omega), fun h => by rw [h]; rfl⟩)) ?_)
      refine TL.cons rfl (V1.t (V1.assign' (by (conv => lhs; whnf) <;> rfl)) ?_)
      refine TL.nil ?_
      refine T.ret ?_
      exact ⟨_, Ps ++ G, _, .cons (.tmp (by (conv => lhs; whnf) <;> rfl)) .nil, (by repeat (first | exact Take.nil | apply Take.one (by repeat (first | exact Pick.here | apply Pick.there | apply Pick.far)) | apply Take.seg (by repeat (first | exact PickS.last | exact PickS.one | exact PickS.here | exact PickS.nil | apply PickS.there | apply PickS.far)) | exact Take.last (by repeat (first | exact PickS.last | exact PickS.one | exact PickS.here | exact PickS.nil | apply PickS.there | apply PickS.far)))), Ps, rfl, rfl, rfl⟩

end Go.Proofs.Ytmolpgnekcfimaa.S
