/- A reader's small steps. -/
import Derived.Test.YtlpkcbkflfbclaaGreatDoorT4
import Derived.Test.YtlpkcbkflfbclaaGreatDoorB1
import Derived.Test.YtlpkcbkflfbclaaGreatDoorOpsL
namespace Go.Proofs.YtlpkcbkflfbclaaGreatDoor.S
open Go.RowKit

/-- Does a text begin so? -/
def preB (p s : List UInt8) : Bool := decide (s.take p.length = p)
theorem bstr_len (l : List UInt8) : (bstr l).size = l.length := rfl
theorem drop_low {l : List UInt8} {k : Nat} (hk : k ≤ l.length) (h1 : ∀ i, i < k → ∀ x, l[i]? = some x → low x = true) (h2 : k = l.length ∨ ∃ x, l[k]? = some x ∧ low x = false) : l.drop k = l.dropWhile low := by
  induction l generalizing k with
  | nil => simp
  | cons a l ih =>
    cases k with
    | zero =>
      rcases h2 with h2 | ⟨x, hx, hl⟩
      · simp at h2
      · simp at hx; subst hx; simp [hl]
    | succ k =>
      have ha : low a = true := h1 0 (by omega) a rfl
      rw [List.drop_succ_cons, List.dropWhile_cons, if_pos ha]
      exact ih (by simpa using hk) (fun i hi x hx => h1 (i + 1) (by omega) x (by simpa using hx)) (by simpa using h2)
theorem dropWhile_app {nm more : List UInt8} (h1 : ∀ x ∈ nm, low x = true) (h2 : more.dropWhile low = more) : (nm ++ more).dropWhile low = more := by
  induction nm with
  | nil => exact h2
  | cons a l ih => rw [List.cons_append, List.dropWhile_cons, if_pos (h1 a (by simp))]; exact ih fun x hx => h1 x (by simp [hx])

set_option maxRecDepth 100000 in
theorem HasPre0_any (w0 : World) (s p : List UInt8) : FnV P 126 [.string (bstr s), .string (bstr p)] w0 [] (fun v => v = .bool (preB p s)) := by
  refine FnV.of 18 [.tmp 4] Go.Proofs.Tryz.func126 rfl rfl rfl rfl (fun G hG => ?_)
  refine T.seq ?_
  refine T.region ?_
  refine TL.cons rfl (V1.t (V1.assign' z_D) ?_)
  refine TL.nil ?_
  refine T.seq ?_
  refine T.region ?_
  refine TL.cons rfl (V1.t (V1.move' z_D) ?_)
  refine TL.cons rfl (V1.t (V1.lenS ty_9 rfl) ?_)
  refine TL.cons rfl (V1.t (V1.move' z_D) ?_)
  refine TL.cons rfl (V1.t (V1.lenS ty_9 rfl) ?_)
  refine TL.cons rfl (T1.geI_split (a := ((s.length : Nat) : Int)) (b := ((p.length : Nat) : Int)) rfl rfl (fun h1 => ?_) (fun h1 => ?_))
  ·
    refine TL.cons rfl (V1.t (V1.move' z_D) ?_)
    refine TL.cons rfl (V1.t (V1.move' z_D) ?_)
    refine TL.cons rfl (V1.t (V1.move' z_D) ?_)
    refine TL.cons rfl (V1.t (V1.lenS ty_9 rfl) ?_)
    refine TL.cons rfl (V1.t (V1.sliceB (s := s) 0 p.length ty_9 rfl rfl rfl (by omega) (by omega)) ?_)
    rw [show (s.drop 0).take (p.length - 0) = s.take p.length from rfl]
    refine TL.cons rfl (V1.t (V1.move' z_D) ?_)
    refine TL.cons rfl (T1.eqS_split (l := s.take p.length) (m := p) rfl rfl (fun h11 => ?_) (fun h11 => ?_))
    ·
      refine TL.cons rfl (V1.t (V1.pick rfl z_D) ?_)
      refine TL.cons rfl (V1.t (V1.assign' z_D) ?_)
      refine TL.nil ?_
      refine T.ret ?_
      exact ⟨_, G, _, .cons (.tmp z_D) .nil, z_A, rfl, by rw [show preB p s = true from decide_eq_true h11]; rfl⟩
    ·
      refine TL.cons rfl (V1.t (V1.pick rfl z_D) ?_)
      refine TL.cons rfl (V1.t (V1.assign' z_D) ?_)
      refine TL.nil ?_
      refine T.ret ?_
      exact ⟨_, G, _, .cons (.tmp z_D) .nil, z_A, rfl, by rw [show preB p s = false from decide_eq_false h11]; rfl⟩
  ·
    refine TL.cons rfl (V1.t (V1.move' z_D) ?_)
    refine TL.no rfl ?_
    refine TL.no rfl ?_
    refine TL.no rfl ?_
    refine TL.no rfl ?_
    refine TL.no rfl ?_
    refine TL.no rfl ?_
    refine TL.cons rfl (V1.t (V1.pick rfl z_D) ?_)
    refine TL.cons rfl (V1.t (V1.assign' z_D) ?_)
    refine TL.nil ?_
    refine T.ret ?_
    exact ⟨_, G, _, .cons (.tmp z_D) .nil, z_A, rfl, by rw [show preB p s = false from decide_eq_false (fun h => by have := congrArg List.length h; rw [List.length_take] at this; omega)]; rfl⟩

set_option maxRecDepth 100000 in
theorem HasPre_any (w0 : World) (s p : List UInt8) : FnV P 94 [.string (bstr s), .string (bstr p)] w0 [] (fun v => v = .bool (preB p s)) := by
  refine FnV.of 8 [.tmp 4] Go.Proofs.Tryz.func94 rfl rfl rfl rfl (fun G hG => ?_)
  refine T.seq ?_
  refine T.region ?_
  refine TL.cons rfl (V1.t (V1.assign' z_D) ?_)
  refine TL.nil ?_
  refine T.seq ?_
  refine T.region ?_
  refine TL.cons rfl (V1.t (V1.move' z_D) ?_)
  refine TL.cons rfl (V1.t (V1.move' z_D) ?_)
  refine TL.cons rfl (T1.callV has_126 rfl rfl (HasPre0_any w0 s p) z_E (fun v_ hv => ?_))
  obtain rfl := hv
  refine TL.cons rfl (V1.t (V1.assign' z_D) ?_)
  refine TL.nil ?_
  refine T.ret ?_
  exact ⟨_, G, _, .cons (.tmp z_D) .nil, z_A, rfl, rfl⟩

set_option maxRecDepth 100000 in
theorem CutPre0_any (w0 : World) (s p : List UInt8) : FnV P 150 [.string (bstr s), .string (bstr p)] w0 [] (fun v => v = .tuple #[.string (bstr (if preB p s = true then s.drop p.length else s)), .bool (preB p s)]) := by
  refine FnV.of 15 [.tmp 4, .tmp 5] Go.Proofs.Tryz.func150 rfl rfl rfl rfl (fun G hG => ?_)
  refine T.seq ?_
  refine T.region ?_
  refine TL.cons rfl (V1.t (V1.assign' z_D) ?_)
  refine TL.cons rfl (V1.t (V1.assign' z_D) ?_)
  refine TL.nil ?_
  refine T.seq ?_
  refine T.seq ?_
  refine T.region ?_
  refine TL.cons rfl (V1.t (V1.move' z_D) ?_)
  refine TL.cons rfl (V1.t (V1.move' z_D) ?_)
  refine TL.cons rfl (T1.callV has_126 rfl rfl (HasPre0_any w0 s p) z_E (fun v_ hv => ?_))
  obtain rfl := hv
  rcases Bool.eq_false_or_eq_true (preB p s) with hp | hp <;> rw [hp]
  ·
    refine TL.cons rfl (V1.t (V1.not rfl rfl) ?_)
    refine TL.nil ?_
    refine T.cond_f rfl ?_
    refine T.skip ?_
    refine T.seq ?_
    refine T.region ?_
    refine TL.cons rfl (V1.t (V1.move' z_D) ?_)
    refine TL.cons rfl (V1.t (V1.move' z_D) ?_)
    refine TL.cons rfl (V1.t (V1.lenS ty_9 rfl) ?_)
    refine TL.cons rfl (V1.t (V1.sliceB (s := s) p.length s.length ty_9 rfl rfl rfl (by have h_ := congrArg List.length (of_decide_eq_true hp); rw [List.length_take] at h_; omega) (Nat.le_refl _)) ?_)
    rw [show (s.drop p.length).take (s.length - p.length) = s.drop p.length from List.take_of_length_le (by rw [List.length_drop]; exact Nat.le_refl _)]
    refine TL.cons rfl (V1.t (V1.assign' z_D) ?_)
    refine TL.cons rfl (V1.t (V1.assign' z_D) ?_)
    refine TL.nil ?_
    refine T.ret ?_
    exact ⟨_, G, _, .cons (.tmp z_D) (.cons (.tmp z_D) .nil), z_A, rfl, rfl⟩
  ·
    refine TL.cons rfl (V1.t (V1.not rfl rfl) ?_)
    refine TL.nil ?_
    refine T.cond_t rfl ?_
    refine T.seq ?_
    refine T.region ?_
    refine TL.cons rfl (V1.t (V1.move' z_D) ?_)
    refine TL.cons rfl (V1.t (V1.assign' z_D) ?_)
    refine TL.cons rfl (V1.t (V1.assign' z_D) ?_)
    refine TL.nil ?_
    refine T.ret ?_
    exact ⟨_, G, _, .cons (.tmp z_D) (.cons (.tmp z_D) .nil), z_A, rfl, rfl⟩

set_option maxRecDepth 100000 in
theorem CutPre_any (w0 : World) (s p : List UInt8) : FnV P 128 [.string (bstr s), .string (bstr p)] w0 [] (fun v => v = .tuple #[.string (bstr (if preB p s = true then s.drop p.length else s)), .bool (preB p s)]) := by
  refine FnV.of 11 [.tmp 4, .tmp 5] Go.Proofs.Tryz.func128 rfl rfl rfl rfl (fun G hG => ?_)
  refine T.seq ?_
  refine T.region ?_
  refine TL.cons rfl (V1.t (V1.assign' z_D) ?_)
  refine TL.cons rfl (V1.t (V1.assign' z_D) ?_)
  refine TL.nil ?_
  refine T.seq ?_
  refine T.region ?_
  refine TL.cons rfl (V1.t (V1.move' z_D) ?_)
  refine TL.cons rfl (V1.t (V1.move' z_D) ?_)
  refine TL.cons rfl (T1.callV has_150 rfl rfl (CutPre0_any w0 s p) z_E (fun v_ hv => ?_))
  obtain rfl := hv
  refine TL.cons rfl (V1.t (V1.extract rfl (by rfl)) ?_)
  refine TL.cons rfl (V1.t (V1.extract rfl (by rfl)) ?_)
  refine TL.cons rfl (V1.t (V1.assign' z_D) ?_)
  refine TL.cons rfl (V1.t (V1.assign' z_D) ?_)
  refine TL.nil ?_
  refine T.ret ?_
  exact ⟨_, G, _, .cons (.tmp z_D) (.cons (.tmp z_D) .nil), z_A, rfl, rfl⟩

set_option maxRecDepth 100000 in
theorem TrimLeft_any (w0 : World) (l : List UInt8) (hl : l.length ≤ 1000000) : FnV P 127 [.string (bstr l), .string (bstr lowS)] w0 [] (fun v => v = .string (bstr (l.dropWhile low))) := by
  refine FnV.of 37 [.tmp 4] Go.Proofs.Tryz.func127 rfl rfl rfl rfl (fun G hG => ?_)
  refine T.seq ?_
  refine T.region ?_
  refine TL.cons rfl (V1.t (V1.assign' z_D) ?_)
  refine TL.nil ?_
  refine T.seq ?_
  refine T.seq ?_
  refine T.region ?_
  refine TL.cons rfl (V1.t (V1.move' z_D) ?_)
  refine TL.cons rfl (T1.eqS_split (l := l) (m := []) rfl rfl (fun h1 => ?_) (fun h1 => ?_))
  ·
    refine TL.cons rfl (V1.t (V1.move' z_D) ?_)
    refine TL.no rfl ?_
    refine TL.no rfl ?_
    refine TL.cons rfl (V1.t (V1.pick rfl z_D) ?_)
    refine TL.nil ?_
    refine T.cond_t rfl ?_
    refine T.seq ?_
    refine T.region ?_
    refine TL.cons rfl (V1.t (V1.move' z_D) ?_)
    refine TL.cons rfl (V1.t (V1.assign' z_D) ?_)
    refine TL.nil ?_
    refine T.ret ?_
    exact ⟨_, G, _, .cons (.tmp z_D) .nil, z_A, rfl, by rw [h1]; rfl⟩
  ·
    refine TL.cons rfl (V1.t (V1.move' z_D) ?_)
    refine TL.cons rfl (V1.t (V1.move' z_D) ?_)
    refine TL.cons rfl (V1.t (V1.eqS (r := false) rfl rfl (by decide)) ?_)
    refine TL.cons rfl (V1.t (V1.pick rfl z_D) ?_)
    refine TL.nil ?_
    refine T.cond_f rfl ?_
    refine T.skip ?_
    refine T.seq ?_
    refine T.seq ?_
    refine T.region ?_
    refine TL.cons rfl (V1.t (V1.move' z_D) ?_)
    refine TL.cons rfl (V1.t (V1.lenS ty_9 rfl) ?_)
    refine TL.cons rfl (V1.t (V1.eqI (r := false) rfl rfl (by decide)) ?_)
    refine TL.cons rfl (V1.t (V1.move' z_D) ?_)
    refine TL.no rfl ?_
    refine TL.no rfl ?_
    refine TL.no rfl ?_
    refine TL.cons rfl (V1.t (V1.pick rfl z_D) ?_)
    refine TL.nil ?_
    refine T.cond_f rfl ?_
    refine T.skip ?_
    refine T.seq ?_
    refine T.seq ?_
    refine T.live (l := [(0, _), (1, _)]) (.cons z_D (.cons z_D .nil)) (fun e_ => ?_)
    refine T.region ?_
    refine TL.cons rfl (V1.t (V1.move' z_D) ?_)
    refine TL.cons rfl (T1.call0 has_132 rfl (fun w hs => makeASCIISet_any w) (fun v_ hv => ?_))
    obtain rfl := hv
    refine TL.cons rfl (V1.t (V1.move' z_D) ?_)
    refine TL.cons rfl (V1.t (V1.extract rfl (by rfl)) ?_)
    refine TL.cons rfl (V1.t (V1.extract rfl (by rfl)) ?_)
    refine TL.cons rfl (T1.allocN 256 zr_171 rfl (fun b5 => ?_))
    refine TL.cons rfl (T1.storeN (vs := ascS 36) rfl rfl sz_171 (ascS_ones _) z_G (ascS_len _) (ascS_len _) ?_)
    refine TL.cons rfl (V1.t (V1.assign' z_D) ?_)
    refine TL.nil ?_
    refine T.seq ?_
    refine T.region ?_
    refine TL.cons rfl (V1.t (V1.move' z_D) ?_)
    refine TL.nil ?_
    refine T.cond_t rfl ?_
    refine T.seq ?_
    refine T.region ?_
    refine TL.cons rfl (V1.t (V1.move' z_D) ?_)
    refine TL.cons rfl (T1.callX (X := [(⟨b5, 0, ascS 36, 256⟩ : Blk)]) has_133 rfl (trimLeft_any _ b5 l hl) z_A (fun v_ Y_ hY => ?_))
    obtain ⟨⟨k, hk, rfl, hl1, hl2⟩, hzz⟩ := hY
    rw [hzz]
    simp only [List.cons_append, List.nil_append]
    refine TL.cons rfl (V1.t (V1.assign' z_D) ?_)
    refine TL.nil ?_
    refine T.ret ?_
    exact ⟨_, G, _, .cons (.tmp z_D) .nil, z_A, rfl, by rw [drop_low hk hl1 hl2]; rfl⟩

set_option maxRecDepth 100000 in
theorem name_any (w0 : World) (br dp sz : Nat) (nm more : List UInt8) (h1 : ∀ x ∈ nm, low x = true) (h2 : more.dropWhile low = more) (hl : (nm ++ more).length ≤ 1000000) : FnG P 95 [.pointer (some ⟨br, 0, none⟩)] w0 [] [(⟨br, 0, [.string (bstr (nm ++ more)), .int .i64 (dp : Nat), .int .i64 (sz : Nat)], 3⟩ : Blk)] (fun v Y => v = .string (bstr nm) ∧ Y = [(⟨br, 0, [.string (bstr more), .int .i64 (dp : Nat), .int .i64 (sz : Nat)], 3⟩ : Blk)]) := by
  refine FnG.of 33 [.tmp 2] Go.Proofs.Tryz.func95 rfl rfl rfl rfl (fun G hG => ?_)
  simp only [List.cons_append, List.nil_append]
  refine T.seq ?_
  refine T.region ?_
  refine TL.cons rfl (V1.t (V1.assign' z_D) ?_)
  refine TL.nil ?_
  refine T.seq ?_
  refine T.drawDet' mixed (by decide +kernel) ?_
  refine Det.cons 0 (ins := [(0, _)]) (.old z_D (by decide +kernel) .nil) (fun e_ => .inl ⟨rfl, V1.t (V1.move' z_D) ⟨rfl, rfl⟩⟩) ?_
  refine Det.cons 1 (ins := [(5, _)]) (.new 0 0 (by decide +kernel) rfl rfl .nil) (fun e_ => .inl ⟨rfl, V1.t (V1.nilCheck rfl) ⟨rfl, rfl⟩⟩) ?_
  refine Det.cons 2 (ins := [(6, _)]) (.new 1 0 (by decide +kernel) rfl rfl .nil) (fun e_ => .inl ⟨rfl, V1.t (V1.fieldAddr fl_115_0 rfl) ⟨rfl, rfl⟩⟩) ?_
  refine Det.cons 3 (ins := [(7, _)]) (.new 2 0 (by decide +kernel) rfl rfl .nil) (fun e_ => .inl ⟨rfl, V1.t (V1.load1 (v := .string (bstr (nm ++ more))) one_9 rfl (.own z_C (by rfl))) ⟨rfl, rfl⟩⟩) ?_
  refine Det.cons 4 (ins := [(8, _)]) (.new 3 0 (by decide +kernel) rfl rfl .nil) (fun e_ => .inl ⟨rfl, V1.t (V1.lenS ty_9 rfl) ⟨rfl, rfl⟩⟩) ?_
  refine Det.cons 5 (ins := [(0, _)]) (.old z_D (by decide +kernel) .nil) (fun e_ => .inl ⟨rfl, V1.t (V1.move' z_D) ⟨rfl, rfl⟩⟩) ?_
  refine Det.cons 6 (ins := [(10, _)]) (.new 5 0 (by decide +kernel) rfl rfl .nil) (fun e_ => .inl ⟨rfl, V1.t (V1.nilCheck rfl) ⟨rfl, rfl⟩⟩) ?_
  refine Det.cons 7 (ins := [(11, _)]) (.new 6 0 (by decide +kernel) rfl rfl .nil) (fun e_ => .inl ⟨rfl, V1.t (V1.fieldAddr fl_115_0 rfl) ⟨rfl, rfl⟩⟩) ?_
  refine Det.cons 8 (ins := [(12, _)]) (.new 7 0 (by decide +kernel) rfl rfl .nil) (fun e_ => .inl ⟨rfl, V1.t (V1.load1 (v := .string (bstr (nm ++ more))) one_9 rfl (.own z_C (by rfl))) ⟨rfl, rfl⟩⟩) ?_
  refine Det.cons 9 (ins := [(13, _)]) (v := .string (bstr more)) (.new 8 0 (by decide +kernel) rfl rfl .nil) (fun e_ => .inl ⟨rfl, ?_⟩) ?_
  · refine T1.callV has_127 rfl rfl (TrimLeft_any w0 (nm ++ more) hl) z_E (fun v_ hv => ?_)
    obtain rfl := hv
    rw [dropWhile_app h1 h2]
    exact ⟨rfl, rfl⟩
  refine Det.cons 10 (ins := [(14, _)]) (.new 9 0 (by decide +kernel) rfl rfl .nil) (fun e_ => .inl ⟨rfl, V1.t (V1.lenS ty_9 rfl) ⟨rfl, rfl⟩⟩) ?_
  refine Det.cons 11 (ins := [(9, _), (15, _)]) (.new 4 6 (by decide +kernel) rfl rfl (.new 10 0 (by decide +kernel) rfl rfl .nil)) (fun e_ => .inl ⟨rfl, V1.t (V1.sub (c := ((nm.length : Nat) : Int)) rfl rfl (by rw [bstr_len, bstr_len, List.length_append, wrap_i64 _ (by rw [List.length_append] at hl; omega) (by rw [List.length_append] at hl; omega)]; omega)) ⟨rfl, rfl⟩⟩) ?_
  refine Det.cons 12 (ins := [(16, _)]) (.new 11 0 (by decide +kernel) rfl rfl .nil) (fun e_ => .inl ⟨rfl, V1.t (V1.assign' z_D) ⟨rfl, rfl⟩⟩) ?_
  refine Det.nil 13 (l := [(0, _), (3, _)]) (.old z_D (by decide +kernel) (.new 12 0 (by decide +kernel) rfl rfl .nil)) (fun e_ => ?_)
  refine T.seq ?_
  refine T.region ?_
  refine TL.cons rfl (V1.t (V1.move' z_D) ?_)
  refine TL.cons rfl (V1.t (V1.nilCheck rfl) ?_)
  refine TL.cons rfl (V1.t (V1.fieldAddr fl_115_0 rfl) ?_)
  refine TL.cons rfl (V1.t (V1.load1 (v := .string (bstr (nm ++ more))) one_9 rfl (.own z_C (by rfl))) ?_)
  refine TL.cons rfl (V1.t (V1.move' z_D) ?_)
  refine TL.cons rfl (V1.t (V1.sliceB (s := nm ++ more) 0 nm.length ty_9 rfl rfl rfl (by omega) (by rw [List.length_append]; omega)) ?_)
  rw [show ((nm ++ more).drop 0).take (nm.length - 0) = nm from List.take_left]
  refine TL.cons rfl (V1.t (V1.assign' z_D) ?_)
  refine TL.nil ?_
  refine T.seq ?_
  refine T.region ?_
  refine TL.cons rfl (V1.t (V1.move' z_D) ?_)
  refine TL.cons rfl (V1.t (V1.move' z_D) ?_)
  refine TL.cons rfl (V1.t (V1.nilCheck rfl) ?_)
  refine TL.cons rfl (V1.t (V1.fieldAddr fl_115_0 rfl) ?_)
  refine TL.cons rfl (V1.t (V1.load1 (v := .string (bstr (nm ++ more))) one_9 rfl (.own z_C (by rfl))) ?_)
  refine TL.cons rfl (V1.t (V1.move' z_D) ?_)
  refine TL.cons rfl (V1.t (V1.sliceB (s := nm ++ more) nm.length (nm ++ more).length ty_9 rfl rfl rfl (by rw [List.length_append]; omega) (Nat.le_refl _)) ?_)
  rw [show ((nm ++ more).drop nm.length).take ((nm ++ more).length - nm.length) = more from by rw [List.drop_left]; exact List.take_of_length_le (by rw [List.length_append]; omega)]
  refine TL.cons rfl (V1.t (V1.nilCheck rfl) ?_)
  refine TL.cons rfl (V1.t (V1.fieldAddr fl_115_0 rfl) ?_)
  refine TL.cons rfl (T1.store1 rfl rfl sz_9 rfl z_G (Nat.zero_le _) z_H ?_)
  refine TL.nil ?_
  refine T.seq ?_
  refine T.live (l := [(4, _)]) (.cons z_D .nil) (fun e_ => ?_)
  refine T.region ?_
  refine TL.cons rfl (V1.t (V1.move' z_D) ?_)
  refine TL.cons rfl (V1.t (V1.assign' z_D) ?_)
  refine TL.nil ?_
  refine T.ret ?_
  exact ⟨_, (⟨br, 0, [.string (bstr more), .int .i64 (dp : Nat), .int .i64 (sz : Nat)], 3⟩ : Blk) :: G, _, .cons (.tmp z_D) .nil, z_A, [_], rfl, rfl, rfl⟩

set_option maxRecDepth 100000 in
theorem sign_any (w0 : World) (br dp sz : Nat) (s p : List UInt8) : FnG P 96 [.pointer (some ⟨br, 0, none⟩), .string (bstr p)] w0 [] [(⟨br, 0, [.string (bstr s), .int .i64 (dp : Nat), .int .i64 (sz : Nat)], 3⟩ : Blk)] (fun v Y => v = .bool (preB p s) ∧ Y = [(⟨br, 0, [.string (bstr (if preB p s = true then s.drop p.length else s)), .int .i64 (dp : Nat), .int .i64 (sz : Nat)], 3⟩ : Blk)]) := by
  refine FnG.of 21 [.tmp 4] Go.Proofs.Tryz.func96 rfl rfl rfl rfl (fun G hG => ?_)
  simp only [List.cons_append, List.nil_append]
  refine T.seq ?_
  refine T.region ?_
  refine TL.cons rfl (V1.t (V1.assign' z_D) ?_)
  refine TL.nil ?_
  refine T.seq ?_
  refine T.region ?_
  refine TL.cons rfl (V1.t (V1.move' z_D) ?_)
  refine TL.cons rfl (V1.t (V1.nilCheck rfl) ?_)
  refine TL.cons rfl (V1.t (V1.fieldAddr fl_115_0 rfl) ?_)
  refine TL.cons rfl (V1.t (V1.load1 (v := .string (bstr s)) one_9 rfl (.own z_C (by rfl))) ?_)
  refine TL.cons rfl (V1.t (V1.move' z_D) ?_)
  refine TL.cons rfl (T1.callV has_128 rfl rfl (CutPre_any w0 s p) z_E (fun v_ hv => ?_))
  obtain rfl := hv
  refine TL.cons rfl (V1.t (V1.move' z_D) ?_)
  refine TL.cons rfl (V1.t (V1.extract rfl (by rfl)) ?_)
  refine TL.cons rfl (V1.t (V1.extract rfl (by rfl)) ?_)
  refine TL.cons rfl (V1.t (V1.assign' z_D) ?_)
  refine TL.cons rfl (V1.t (V1.assign' z_D) ?_)
  refine TL.nil ?_
  refine T.seq ?_
  refine T.region ?_
  refine TL.cons rfl (V1.t (V1.move' z_D) ?_)
  refine TL.cons rfl (V1.t (V1.move' z_D) ?_)
  refine TL.cons rfl (V1.t (V1.nilCheck rfl) ?_)
  refine TL.cons rfl (V1.t (V1.fieldAddr fl_115_0 rfl) ?_)
  refine TL.cons rfl (T1.store1 rfl rfl sz_9 rfl z_G (Nat.zero_le _) z_H ?_)
  refine TL.nil ?_
  refine T.seq ?_
  refine T.live (l := [(6, _)]) (.cons z_D .nil) (fun e_ => ?_)
  refine T.region ?_
  refine TL.cons rfl (V1.t (V1.move' z_D) ?_)
  refine TL.cons rfl (V1.t (V1.assign' z_D) ?_)
  refine TL.nil ?_
  refine T.ret ?_
  exact ⟨_, (⟨br, 0, [.string (bstr (if preB p s = true then s.drop p.length else s)), .int .i64 (dp : Nat), .int .i64 (sz : Nat)], 3⟩ : Blk) :: G, _, .cons (.tmp z_D) .nil, z_A, [_], rfl, rfl, rfl⟩

set_option maxRecDepth 100000 in
theorem need_any (w0 : World) (p : Value) : FnV P 64 [p, .bool true] w0 [] (fun v => v = .tuple #[]) := by
  refine FnV.of 8 [] Go.Proofs.Tryz.func64 rfl rfl rfl rfl (fun G hG => ?_)
  refine T.seq ?_
  refine T.region ?_
  refine TL.cons rfl (V1.t (V1.move' z_D) ?_)
  refine TL.cons rfl (V1.t (V1.not rfl rfl) ?_)
  refine TL.nil ?_
  refine T.cond_f rfl ?_
  refine T.skip ?_
  -- the end
  exact ⟨_, G, _, .nil, z_A, rfl, rfl⟩

set_option maxRecDepth 100000 in
theorem term1_any (w0 : World) (b1 br dp sz : Nat) (s : List UInt8) (hd : dp ≤ 1000) : FnD P 93 [.pointer (some ⟨b1, 0, none⟩)] w0 [] [(⟨b1, 0, [.pointer (some ⟨br, 0, none⟩)], 1⟩ : Blk), (⟨br, 0, [.string (bstr s), .int .i64 (dp + 1 : Nat), .int .i64 (sz : Nat)], 3⟩ : Blk)] [(⟨b1, 0, [.pointer (some ⟨br, 0, none⟩)], 1⟩ : Blk), (⟨br, 0, [.string (bstr s), .int .i64 (dp : Nat), .int .i64 (sz : Nat)], 3⟩ : Blk)] := by
  refine FnD.of 8 [] Go.Proofs.Tryz.func93 rfl rfl rfl rfl (fun G hG => ?_)
  simp only [List.cons_append, List.nil_append]
  refine T.region ?_
  refine TL.cons rfl (V1.t (V1.load1 (v := .pointer (some ⟨br, 0, none⟩)) one_113 rfl (.own z_C (by rfl))) ?_)
  refine TL.cons rfl (V1.t (V1.nilCheck rfl) ?_)
  refine TL.cons rfl (V1.t (V1.fieldAddr fl_115_1 rfl) ?_)
  refine TL.cons rfl (V1.t (V1.load1 (v := .int .i64 ((dp + 1 : Nat) : Int)) one_3 rfl (.own z_C (by rfl))) ?_)
  refine TL.cons rfl (V1.t (V1.sub (c := ((dp : Nat) : Int)) rfl rfl (by rw [wrap_i64 _ (by omega) (by omega)]; omega)) ?_)
  refine TL.cons rfl (V1.t (V1.nilCheck rfl) ?_)
  refine TL.cons rfl (V1.t (V1.fieldAddr fl_115_1 rfl) ?_)
  refine TL.cons rfl (T1.store1 rfl rfl sz_3 rfl z_G (Nat.zero_le _) z_H ?_)
  refine TL.nil ?_
  -- the end
  exact ⟨_, (⟨b1, 0, [.pointer (some ⟨br, 0, none⟩)], 1⟩ : Blk) :: (⟨br, 0, [.string (bstr s), .int .i64 (dp : Nat), .int .i64 (sz : Nat)], 3⟩ : Blk) :: G, _, .nil, z_A, rfl⟩

end Go.Proofs.YtlpkcbkflfbclaaGreatDoor.S
