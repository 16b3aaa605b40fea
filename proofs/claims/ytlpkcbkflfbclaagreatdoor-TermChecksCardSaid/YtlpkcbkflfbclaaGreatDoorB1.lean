/- strings.Builder: bytes written one behind the other, and handed on as a string. -/
import Derived.Test.YtlpkcbkflfbclaaGreatDoorTypes
import Derived.Test.YtlpkcbkflfbclaaGreatDoorOps9
namespace Go.Proofs.YtlpkcbkflfbclaaGreatDoor.S
open Go.RowKit

/-- A builder to which l was written. -/
def BB (b : Nat) (l : List UInt8) (X : List Blk) : Prop := ∃ p s Ls, (p = .pointer none ∨ p = .pointer (some ⟨b, 0, none⟩)) ∧ X = ⟨⟨b, some 83⟩, 0, [p, s], 2⟩ :: Ls ∧ SlG (some 5) s (l.map byteV) 1 Ls ∧ (l = [] → s = .slice none 0 0 ∧ Ls = [])
theorem BB.new (b : Nat) : BB b [] [⟨⟨b, some 83⟩, 0, [.pointer none, .slice none 0 0], 2⟩] := ⟨_, _, [], .inl rfl, rfl, .inl ⟨rfl, rfl, rfl⟩, fun _ => ⟨rfl, rfl⟩⟩

set_option maxRecDepth 100000 in
theorem copyCheck_new (w0 : World) (b : Nat) (s : Value) : FnX P 101 [.pointer (some ⟨b, 0, none⟩)] w0 [] [⟨⟨b, some 83⟩, 0, [.pointer none, s], 2⟩] (fun _ Y => Y = [⟨⟨b, some 83⟩, 0, [.pointer (some ⟨b, 0, none⟩), s], 2⟩]) := by
  refine FnX.of 20 [] Go.Proofs.Tryz.func101 rfl rfl rfl rfl (fun G => ?_)
  simp only [List.cons_append, List.nil_append]
  refine T.seq ?_
  refine T.region ?_
  refine TL.cons rfl (V1.t (V1.move' z_D) ?_)
  refine TL.cons rfl (V1.t (V1.nilCheck rfl) ?_)
  refine TL.cons rfl (V1.t (V1.fieldAddr fl_83_0 rfl) ?_)
  refine TL.cons rfl (V1.t (V1.load1 one_80 rfl (.own z_C (by rfl))) ?_)
  refine TL.cons rfl (V1.t (V1.eqNil0 ty_80 rfl rfl) ?_)
  refine TL.nil ?_
  refine T.cond_t rfl ?_
  refine T.region ?_
  refine TL.cons rfl (V1.t (V1.move' z_D) ?_)
  refine TL.cons rfl (V1.t (V1.move' z_D) ?_)
  refine TL.cons rfl (V1.t (V1.toUnsafe ty_80 (by kernel_rfl) sz_83 (by decide) rfl z_C (by decide)) ?_)
  refine TL.cons rfl (V1.t (V1.ext (fn := Go.Proofs.Tryz.f137) (g := Extern.AbiNoEscape.same) Go.Proofs.Tryz.func137 (by kernel_rfl) (by kernel_rfl) (by kernel_rfl) (by kernel_rfl) rfl (fun w => rfl)) ?_)
  refine TL.cons rfl (V1.t (V1.ofUnsafe (E := 83) (size := 2) (by kernel_rfl) ty_80 sz_83 rfl z_C (by kernel_rfl)) ?_)
  refine TL.cons rfl (V1.t (V1.nilCheck rfl) ?_)
  refine TL.cons rfl (V1.t (V1.fieldAddr fl_83_0 rfl) ?_)
  refine TL.cons rfl (T1.store1 rfl rfl sz_80 rfl z_G (Nat.zero_le _) z_H ?_)
  refine TL.nil ?_
  -- the end
  exact ⟨_, ⟨⟨b, some 83⟩, 0, [.pointer (some ⟨b, 0, none⟩), s], 2⟩ :: G, _, .nil, z_A, _, rfl, rfl⟩

set_option maxRecDepth 100000 in
theorem copyCheck_old (w0 : World) (b : Nat) (s : Value) : FnX P 101 [.pointer (some ⟨b, 0, none⟩)] w0 [] [⟨⟨b, some 83⟩, 0, [.pointer (some ⟨b, 0, none⟩), s], 2⟩] (fun _ Y => Y = [⟨⟨b, some 83⟩, 0, [.pointer (some ⟨b, 0, none⟩), s], 2⟩]) := by
  refine FnX.of 20 [] Go.Proofs.Tryz.func101 rfl rfl rfl rfl (fun G => ?_)
  simp only [List.cons_append, List.nil_append]
  refine T.seq ?_
  refine T.region ?_
  refine TL.cons rfl (V1.t (V1.move' z_D) ?_)
  refine TL.cons rfl (V1.t (V1.nilCheck rfl) ?_)
  refine TL.cons rfl (V1.t (V1.fieldAddr fl_83_0 rfl) ?_)
  refine TL.cons rfl (V1.t (V1.load1 one_80 rfl (.own z_C (by rfl))) ?_)
  refine TL.cons rfl (V1.t (V1.eqNil ty_80 rfl rfl) ?_)
  refine TL.nil ?_
  refine T.cond_f rfl ?_
  refine T.seq ?_
  refine T.region ?_
  refine TL.cons rfl (V1.t (V1.move' z_D) ?_)
  refine TL.cons rfl (V1.t (V1.nilCheck rfl) ?_)
  refine TL.cons rfl (V1.t (V1.fieldAddr fl_83_0 rfl) ?_)
  refine TL.cons rfl (V1.t (V1.load1 one_80 rfl (.own z_C (by rfl))) ?_)
  refine TL.cons rfl (V1.t (V1.move' z_D) ?_)
  refine TL.cons rfl (V1.t (V1.neSame ty_80 sz_83 rfl rfl) ?_)
  refine TL.nil ?_
  refine T.cond_f rfl ?_
  refine T.skip ?_
  -- the end
  exact ⟨_, ⟨⟨b, some 83⟩, 0, [.pointer (some ⟨b, 0, none⟩), s], 2⟩ :: G, _, .nil, z_A, _, rfl, rfl⟩

theorem copyCheck_any (w0 : World) (b : Nat) (p s : Value) (hp : p = .pointer none ∨ p = .pointer (some ⟨b, 0, none⟩)) : FnX P 101 [.pointer (some ⟨b, 0, none⟩)] w0 [] [⟨⟨b, some 83⟩, 0, [p, s], 2⟩] (fun _ Y => Y = [⟨⟨b, some 83⟩, 0, [.pointer (some ⟨b, 0, none⟩), s], 2⟩]) := by
  rcases hp with rfl | rfl
  · exact copyCheck_new w0 b s
  · exact copyCheck_old w0 b s

set_option maxRecDepth 100000 in
theorem WriteByte_any (w0 : World) (b : Nat) (l : List UInt8) (c : UInt8) (X : List Blk) (hb : BB b l X) (hl : l.length < 199999999999999) : FnX P 73 [.pointer (some ⟨b, 0, none⟩), byteV c] w0 [] X (fun _ Y => BB b (l ++ [c]) Y) := by
  obtain ⟨p, s, Ls, hp, rfl, hsl, _⟩ := hb
  refine FnX.of 17 [.tmp 4] Go.Proofs.Tryz.func73 rfl rfl rfl rfl (fun G => ?_)
  simp only [List.cons_append]
  refine T.seq ?_
  refine T.region ?_
  refine TL.cons rfl (V1.t (V1.assign' z_D) ?_)
  refine TL.nil ?_
  refine T.seq ?_
  refine T.region ?_
  refine TL.cons rfl (V1.t (V1.move' z_D) ?_)
  refine TL.cons rfl (T1.callX (X := [⟨⟨b, some 83⟩, 0, [p, s], 2⟩]) has_101 rfl (copyCheck_any _ b p s hp) z_A (fun v Y hY => ?_))
  subst hY
  simp only [List.cons_append, List.nil_append]
  refine TL.nil ?_
  refine T.seq ?_
  refine T.region ?_
  refine TL.cons rfl (V1.t (V1.move' z_D) ?_)
  refine TL.cons rfl (V1.t (V1.move' z_D) ?_)
  refine TL.cons rfl (V1.t (V1.nilCheck rfl) ?_)
  refine TL.cons rfl (V1.t (V1.fieldAddr fl_83_1 rfl) ?_)
  refine TL.cons rfl (V1.t (V1.load1 one_81 rfl (.own z_C (by rfl))) ?_)
  refine TL.cons rfl (V1.t (V1.move' z_D) ?_)
  refine TL.cons rfl (T1.buildSl1 (os := [.tmp 12]) (vs := [byteV c]) ty_81 sz_5 zr_5 (by decide) rfl (.cons rfl .nil) rfl (ones rfl) (fun b13 => ?_))
  refine TL.cons rfl (T1.appendG ty_81 kd_81 sz_5 by_5 zr_5 rfl (by decide) (by decide) rfl rfl (.inr rfl) hsl (.sl (n := 1) (RdN.at0 (cells := ([c] : List UInt8).map byteV) z_C) rfl) (one_bytes [c]) 200000000000000 (by simp only [List.length_map, List.length_singleton]; omega) (by omega) z_B (fun s1 Ls1 hs1 => ?_))
  rw [← List.map_append] at hs1
  refine TL.cons rfl (V1.t (V1.nilCheck rfl) ?_)
  refine TL.cons rfl (V1.t (V1.fieldAddr fl_83_1 rfl) ?_)
  refine TL.cons rfl (T1.store1 rfl rfl sz_81 hs1.one z_G (Nat.zero_le _) z_H ?_)
  refine TL.nil ?_
  refine T.seq ?_
  refine T.region ?_
  refine TL.cons rfl (V1.t (V1.assign' z_D) ?_)
  refine TL.nil ?_
  refine T.ret ?_
  exact ⟨_, ⟨⟨b, some 83⟩, 0, [.pointer (some ⟨b, 0, none⟩), s1], 2⟩ :: (Ls1 ++ G), _, .cons (.tmp z_D) .nil, z_A, ⟨⟨b, some 83⟩, 0, [.pointer (some ⟨b, 0, none⟩), s1], 2⟩ :: Ls1, by rw [List.cons_append], _, _, _, .inr rfl, rfl, hs1, fun h => by simp at h⟩

set_option maxRecDepth 100000 in
theorem String_some (w0 : World) (b g off cap size : Nat) (p : Value) (l : List UInt8) (h0 : l ≠ []) (hl : l.length < 200000000000000) (hc : 0 < cap) : FnX P 39 [.pointer (some ⟨b, 0, none⟩)] w0 [] [⟨⟨b, some 83⟩, 0, [p, .slice (some ⟨g, off, none⟩) l.length cap], 2⟩, ⟨⟨g, some 5⟩, off, l.map byteV, size⟩] (fun v Y => v = .string (bstr l) ∧ Y = []) := by
  refine FnX.of 14 [.tmp 2] Go.Proofs.Tryz.func39 rfl rfl rfl rfl (fun G => ?_)
  simp only [List.cons_append, List.nil_append]
  refine T.seq ?_
  refine T.region ?_
  refine TL.cons rfl (V1.t (V1.assign' z_D) ?_)
  refine TL.nil ?_
  refine T.seq ?_
  refine T.drawTail 10 mixed (by decide +kernel) (by rfl) (by decide +kernel) rfl ?_
  refine Det.cons 0 (ins := [(0, _)]) (.old z_D (by decide +kernel) .nil) (fun e_ => .inl ⟨rfl, V1.t (V1.move' z_D) ⟨rfl, rfl⟩⟩) ?_
  refine Det.cons 1 (ins := [(3, _)]) (.new 0 0 (by decide +kernel) rfl rfl .nil) (fun e_ => .inl ⟨rfl, V1.t (V1.nilCheck rfl) ⟨rfl, rfl⟩⟩) ?_
  refine Det.cons 2 (ins := [(4, _)]) (.new 1 0 (by decide +kernel) rfl rfl .nil) (fun e_ => .inl ⟨rfl, V1.t (V1.fieldAddr fl_83_1 rfl) ⟨rfl, rfl⟩⟩) ?_
  refine Det.cons 3 (ins := [(5, _)]) (.new 2 0 (by decide +kernel) rfl rfl .nil) (fun e_ => .inl ⟨rfl, V1.t (V1.load1 one_81 rfl (.own z_C (by rfl))) ⟨rfl, rfl⟩⟩) ?_
  refine Det.cons 4 (ins := [(6, _)]) (.new 3 0 (by decide +kernel) rfl rfl .nil) (fun e_ => .inl ⟨rfl, V1.t (V1.sliceData rfl (by omega)) ⟨rfl, rfl⟩⟩) ?_
  refine Det.cons 5 (ins := [(0, _)]) (.old z_D (by decide +kernel) .nil) (fun e_ => .inl ⟨rfl, V1.t (V1.move' z_D) ⟨rfl, rfl⟩⟩) ?_
  refine Det.cons 6 (ins := [(8, _)]) (.new 5 0 (by decide +kernel) rfl rfl .nil) (fun e_ => .inl ⟨rfl, V1.t (V1.nilCheck rfl) ⟨rfl, rfl⟩⟩) ?_
  refine Det.cons 7 (ins := [(9, _)]) (.new 6 0 (by decide +kernel) rfl rfl .nil) (fun e_ => .inl ⟨rfl, V1.t (V1.fieldAddr fl_83_1 rfl) ⟨rfl, rfl⟩⟩) ?_
  refine Det.cons 8 (ins := [(10, _)]) (.new 7 0 (by decide +kernel) rfl rfl .nil) (fun e_ => .inl ⟨rfl, V1.t (V1.load1 one_81 rfl (.own z_C (by rfl))) ⟨rfl, rfl⟩⟩) ?_
  refine Det.cons 9 (ins := [(11, _)]) (.new 8 0 (by decide +kernel) rfl rfl .nil) (fun e_ => .inl ⟨rfl, V1.t (V1.lenSl ty_81 rfl) ⟨rfl, rfl⟩⟩) ?_
  refine Det.nil 10 (l := [(7, _), (12, _)]) (.new 4 5 (by decide +kernel) rfl rfl (.new 9 0 (by decide +kernel) rfl rfl .nil)) (fun e_ => ?_)
  refine (show TU _ _ _ 2 _ _ _ from ?_)
  refine TU.one 10 (by decide +kernel) rfl rfl (T1.unsafeStr ty_127 ce_5 rfl rfl h0 (by omega) z_F ?_)
  refine TU.one 11 (by decide +kernel) rfl rfl (V1.t (V1.assign' z_D) ?_)
  refine TU.done (by decide +kernel) ?_
  refine T.ret ?_
  exact ⟨_, G, _, .cons (.tmp z_D) .nil, z_A, [], rfl, rfl, rfl⟩

set_option maxRecDepth 100000 in
theorem String_none (w0 : World) (b : Nat) (p : Value) : FnX P 39 [.pointer (some ⟨b, 0, none⟩)] w0 [] [⟨⟨b, some 83⟩, 0, [p, .slice none 0 0], 2⟩] (fun v Y => v = .string (bstr []) ∧ Y = []) := by
  refine FnX.of 14 [.tmp 2] Go.Proofs.Tryz.func39 rfl rfl rfl rfl (fun G => ?_)
  simp only [List.cons_append, List.nil_append]
  refine T.seq ?_
  refine T.region ?_
  refine TL.cons rfl (V1.t (V1.assign' z_D) ?_)
  refine TL.nil ?_
  refine T.seq ?_
  refine T.drawTail 10 mixed (by decide +kernel) (by rfl) (by decide +kernel) rfl ?_
  refine Det.cons 0 (ins := [(0, _)]) (.old z_D (by decide +kernel) .nil) (fun e_ => .inl ⟨rfl, V1.t (V1.move' z_D) ⟨rfl, rfl⟩⟩) ?_
  refine Det.cons 1 (ins := [(3, _)]) (.new 0 0 (by decide +kernel) rfl rfl .nil) (fun e_ => .inl ⟨rfl, V1.t (V1.nilCheck rfl) ⟨rfl, rfl⟩⟩) ?_
  refine Det.cons 2 (ins := [(4, _)]) (.new 1 0 (by decide +kernel) rfl rfl .nil) (fun e_ => .inl ⟨rfl, V1.t (V1.fieldAddr fl_83_1 rfl) ⟨rfl, rfl⟩⟩) ?_
  refine Det.cons 3 (ins := [(5, _)]) (.new 2 0 (by decide +kernel) rfl rfl .nil) (fun e_ => .inl ⟨rfl, V1.t (V1.load1 one_81 rfl (.own z_C (by rfl))) ⟨rfl, rfl⟩⟩) ?_
  refine Det.cons 4 (ins := [(6, _)]) (.new 3 0 (by decide +kernel) rfl rfl .nil) (fun e_ => .inl ⟨rfl, V1.t (V1.sliceData0 rfl) ⟨rfl, rfl⟩⟩) ?_
  refine Det.cons 5 (ins := [(0, _)]) (.old z_D (by decide +kernel) .nil) (fun e_ => .inl ⟨rfl, V1.t (V1.move' z_D) ⟨rfl, rfl⟩⟩) ?_
  refine Det.cons 6 (ins := [(8, _)]) (.new 5 0 (by decide +kernel) rfl rfl .nil) (fun e_ => .inl ⟨rfl, V1.t (V1.nilCheck rfl) ⟨rfl, rfl⟩⟩) ?_
  refine Det.cons 7 (ins := [(9, _)]) (.new 6 0 (by decide +kernel) rfl rfl .nil) (fun e_ => .inl ⟨rfl, V1.t (V1.fieldAddr fl_83_1 rfl) ⟨rfl, rfl⟩⟩) ?_
  refine Det.cons 8 (ins := [(10, _)]) (.new 7 0 (by decide +kernel) rfl rfl .nil) (fun e_ => .inl ⟨rfl, V1.t (V1.load1 one_81 rfl (.own z_C (by rfl))) ⟨rfl, rfl⟩⟩) ?_
  refine Det.cons 9 (ins := [(11, _)]) (.new 8 0 (by decide +kernel) rfl rfl .nil) (fun e_ => .inl ⟨rfl, V1.t (V1.lenSl ty_81 rfl) ⟨rfl, rfl⟩⟩) ?_
  refine Det.nil 10 (l := [(7, _), (12, _)]) (.new 4 5 (by decide +kernel) rfl rfl (.new 9 0 (by decide +kernel) rfl rfl .nil)) (fun e_ => ?_)
  refine (show TU _ _ _ 2 _ _ _ from ?_)
  refine TU.one 10 (by decide +kernel) rfl rfl (V1.t (V1.unsafeStr0 rfl rfl) ?_)
  refine TU.one 11 (by decide +kernel) rfl rfl (V1.t (V1.assign' z_D) ?_)
  refine TU.done (by decide +kernel) ?_
  refine T.ret ?_
  exact ⟨_, G, _, .cons (.tmp z_D) .nil, z_A, [], rfl, rfl, rfl⟩

theorem String_any (w0 : World) (b : Nat) (l : List UInt8) (X : List Blk) (hb : BB b l X) (hl : l.length < 200000000000000) : FnX P 39 [.pointer (some ⟨b, 0, none⟩)] w0 [] X (fun v Y => v = .string (bstr l) ∧ Y = []) := by
  obtain ⟨p, s, Ls, _, rfl, hsl, hn⟩ := hb
  by_cases h0 : l = []
  · obtain ⟨rfl, rfl⟩ := hn h0
    subst h0
    exact String_none w0 b p
  · rcases hsl with ⟨_, h, _⟩ | ⟨g, off, len, cap, size, rfl, h1, h2, h3, rfl⟩
    · exact absurd (List.map_eq_nil_iff.1 h) h0
    · rw [List.length_map, Nat.mul_one] at h1
      subst h1
      have : 0 < l.length := List.length_pos_iff.2 h0
      exact String_some w0 b g off cap size p l h0 hl (by omega)

end Go.Proofs.YtlpkcbkflfbclaaGreatDoor.S
