/- A text without the letters and digits at its ends. -/
import Derived.Test.YtlpkcbkflfbclaaGreatDoorT2
import Derived.Test.YtlpkcbkflfbclaaGreatDoorOps9
namespace Go.Proofs.YtlpkcbkflfbclaaGreatDoor.S
open Go.RowKit

theorem lowS_get : ∀ i, i < 36 → ∃ c : UInt8, lowS[i]? = some c ∧ c.toNat < 128 := by
  intro i hi
  have h : i < lowS.length := hi
  exact ⟨lowS[i], List.getElem?_eq_getElem h, (show ∀ x ∈ lowS, x.toNat < 128 by decide) _ (List.getElem_mem h)⟩
/-- The set of the first so many letters. -/
def ascS (i : Nat) : List Value := (List.range 256).map fun c => .bool ((lowS.take i).contains (UInt8.ofNat c))
theorem ascS_len (i : Nat) : (ascS i).length = 256 := by unfold ascS; rw [List.length_map, List.length_range]
theorem ascS_get {i c : Nat} (h : c < 256) : (ascS i)[c]? = some (.bool ((lowS.take i).contains (UInt8.ofNat c))) := by
  unfold ascS; rw [List.getElem?_map, List.getElem?_range h]; rfl
theorem ascS_set {i : Nat} {c : UInt8} (h : lowS[i]? = some c) : (ascS i).set c.toNat (.bool true) = ascS (i + 1) := by
  apply List.ext_getElem?
  intro q
  have hc := c.toNat_lt
  have ht : lowS.take (i + 1) = lowS.take i ++ [c] := by rw [List.take_add_one, h]; rfl
  rw [List.getElem?_set, ascS_len]
  by_cases hq : c.toNat = q
  · rw [if_pos hq, if_pos (by omega), ascS_get (by omega), ht, ← hq, UInt8.ofNat_toNat]; simp
  · rw [if_neg hq]
    by_cases h2 : q < 256
    · rw [ascS_get h2, ascS_get h2, ht]
      have hne : UInt8.ofNat q ≠ c := fun he => hq (by rw [← he]; simp; omega)
      congr 2
      rw [Bool.eq_iff_iff]
      simp [hne]
    · rw [List.getElem?_eq_none (by rw [ascS_len]; omega), List.getElem?_eq_none (by rw [ascS_len]; omega)]
theorem ascS_ones (i : Nat) : ∀ u ∈ ascS i, one u = true := by
  intro u hu; unfold ascS at hu; obtain ⟨_, _, rfl⟩ := List.mem_map.1 hu; rfl
theorem ascS_low (c : UInt8) : (ascS 36)[c.toNat]? = some (.bool (low c)) := by
  rw [ascS_get c.toNat_lt, UInt8.ofNat_toNat]; rfl
theorem ascS_zero : ascS 0 = List.replicate 256 (.bool false) := by
  apply List.ext_getElem?
  intro c
  by_cases h2 : c < 256
  · rw [ascS_get h2, List.getElem?_replicate, if_pos h2]; simp
  · rw [List.getElem?_eq_none (by rw [ascS_len]; omega), List.getElem?_replicate, if_neg h2]
theorem Rd.low {C : Ctx} {L : List Blk} {b size : Nat} {c : UInt8} (hf : Find L ⟨b, 0, ascS 36, size⟩) : Rd C L ⟨b, 0 + c.toNat * 1, none⟩ (.bool (low c)) := by
  rw [Nat.mul_one]; exact Rd.at (cells := ascS 36) hf (by rw [ascS_low c])

set_option maxRecDepth 100000 in
set_option maxHeartbeats 2000000 in
theorem makeASCIISet_any (w : World) : Fn P 132 [.string (bstr lowS)] w [] (fun v Y => Y = [] ∧ v = .tuple #[.agg (ascS 36).toArray, .bool true]) := by
  refine Fn.of 21 [.cell 2 171, .tmp 3] Go.Proofs.Tryz.func132 rfl rfl rfl rfl ?_
  refine T.seq ?_
  refine T.region ?_
  refine TL.cons rfl (T1.allocN 256 zr_171 rfl (fun b2 => ?_))
  rw [show ([.bool false, .bool false, .bool false, .bool false, .bool false, .bool false, .bool false, .bool false, .bool false, .bool false, .bool false, .bool false, .bool false, .bool false, .bool false, .bool false, .bool false, .bool false, .bool false, .bool false, .bool false, .bool false, .bool false, .bool false, .bool false, .bool false, .bool false, .bool false, .bool false, .bool false, .bool false, .bool false, .bool false, .bool false, .bool false, .bool false, .bool false, .bool false, .bool false, .bool false, .bool false, .bool false, .bool false, .bool false, .bool false, .bool false, .bool false, .bool false, .bool false, .bool false, .bool false, .bool false, .bool false, .bool false, .bool false, .bool false, .bool false, .bool false, .bool false, .bool false, .bool false, .bool false, .bool false, .bool false, .bool false, .bool false, .bool false, .bool false, .bool false, .bool false, .bool false, .bool false, .bool false, .bool false, .bool false, .bool false, .bool false, .bool false, .bool false, .bool false, .bool false, .bool false, .bool false, .bool false, .bool false, .bool false, .bool false, .bool false, .bool false, .bool false, .bool false, .bool false, .bool false, .bool false, .bool false, .bool false, .bool false, .bool false, .bool false, .bool false, .bool false, .bool false, .bool false, .bool false, .bool false, .bool false, .bool false, .bool false, .bool false, .bool false, .bool false, .bool false, .bool false, .bool false, .bool false, .bool false, .bool false, .bool false, .bool false, .bool false, .bool false, .bool false, .bool false, .bool false, .bool false, .bool false, .bool false, .bool false, .bool false, .bool false, .bool false, .bool false, .bool false, .bool false, .bool false, .bool false, .bool false, .bool false, .bool false, .bool false, .bool false, .bool false, .bool false, .bool false, .bool false, .bool false, .bool false, .bool false, .bool false, .bool false, .bool false, .bool false, .bool false, .bool false, .bool false, .bool false, .bool false, .bool false, .bool false, .bool false, .bool false, .bool false, .bool false, .bool false, .bool false, .bool false, .bool false, .bool false, .bool false, .bool false, .bool false, .bool false, .bool false, .bool false, .bool false, .bool false, .bool false, .bool false, .bool false, .bool false, .bool false, .bool false, .bool false, .bool false, .bool false, .bool false, .bool false, .bool false, .bool false, .bool false, .bool false, .bool false, .bool false, .bool false, .bool false, .bool false, .bool false, .bool false, .bool false, .bool false, .bool false, .bool false, .bool false, .bool false, .bool false, .bool false, .bool false, .bool false, .bool false, .bool false, .bool false, .bool false, .bool false, .bool false, .bool false, .bool false, .bool false, .bool false, .bool false, .bool false, .bool false, .bool false, .bool false, .bool false, .bool false, .bool false, .bool false, .bool false, .bool false, .bool false, .bool false, .bool false, .bool false, .bool false, .bool false, .bool false, .bool false, .bool false, .bool false, .bool false, .bool false, .bool false, .bool false, .bool false, .bool false, .bool false, .bool false, .bool false, .bool false, .bool false, .bool false, .bool false, .bool false, .bool false, .bool false, .bool false] : List Value) = ascS 0 from by rw [ascS_zero]; rfl]
  refine TL.cons rfl (V1.t (V1.assign' z_D) ?_)
  refine TL.nil ?_
  refine T.seq ?_
  refine T.seq ?_
  refine T.region ?_
  refine TL.cons rfl (V1.t (V1.assign' z_D) ?_)
  refine TL.nil ?_
  refine T.block ?_
  refine T.loopL (σ := Nat) (l0 := [(0, _), (2, _)]) (fun x => [(4, .int .i64 (x : Nat))]) (fun x L => L = [⟨b2, 0, ascS x, 256⟩] ∧ x ≤ 36) (fun x => 36 - x) 0 (.cons rfl .nil) (.cons z_D (.cons z_D .nil)) z_A (⟨rfl, Nat.zero_le _⟩) ?_
  rintro i e_ L ⟨rfl, hi⟩
  refine T.seq ?_
  refine T.seq ?_
  refine T.region ?_
  refine TL.cons rfl (V1.t (V1.move' z_D) ?_)
  refine TL.cons rfl (V1.t (V1.move' z_D) ?_)
  refine TL.cons rfl (V1.t (V1.lenS ty_9 rfl) ?_)
  refine TL.cons rfl (T1.ltI_split (b := 36) rfl rfl (fun h2 => ?_) (fun h2 => ?_))
  ·
    try simp only at h2
    obtain ⟨c, hc, hcn⟩ := lowS_get i (by omega)
    refine TL.nil ?_
    refine T.cond_t rfl ?_
    refine T.skip ?_
    refine T.seq ?_
    refine T.block ?_
    refine T.seq ?_
    refine T.region ?_
    refine TL.cons rfl (V1.t (V1.move' z_D) ?_)
    refine TL.cons rfl (V1.t (V1.move' z_D) ?_)
    refine TL.cons rfl (V1.t (V1.indexStr (s := bstr lowS) (c := c) ty_9 rfl rfl (by omega) (by rw [Int.toNat_natCast]; exact bstr_get hc)) ?_)
    refine TL.cons rfl (V1.t (V1.assign' z_D) ?_)
    refine TL.nil ?_
    refine T.seq ?_
    refine T.seq ?_
    refine T.region ?_
    refine TL.cons rfl (V1.t (V1.move' z_D) ?_)
    refine TL.cons rfl (V1.t (V1.geI rfl rfl (decide_eq_false (by omega))) ?_)
    refine TL.nil ?_
    refine T.cond_f rfl ?_
    refine T.skip ?_
    refine T.region ?_
    refine TL.cons rfl (V1.t (V1.move' z_D) ?_)
    refine TL.cons rfl (V1.t (V1.indexAddrA ty_171 sz_4 rfl rfl (by omega) (by omega)) ?_)
    refine TL.cons rfl (T1.storeE (o := 0 + c.toNat * 1) (v := .bool true) (cells := ascS i) (cells' := ascS (i + 1)) rfl rfl sz_4 rfl (by rw [show 0 + c.toNat * 1 - 0 = c.toNat from by omega]; exact ascS_set hc) z_G (Nat.zero_le _) (by rw [ascS_len]; omega) ?_)
    refine TL.nil ?_
    refine T.region ?_
    refine TL.cons rfl (V1.t (V1.move' z_D) ?_)
    refine TL.cons rfl (V1.t (V1.add rfl rfl (wrap_i64 _ (by omega) (by omega))) ?_)
    refine TL.cons rfl (V1.t (V1.assign' z_D) ?_)
    refine TL.nil ?_
    exact ⟨i + 1, _, _, (by simp only; omega), (.cons rfl .nil), (.cons rfl (.cons rfl .nil)), z_A, ⟨rfl, by omega⟩⟩
  ·
    try simp only at h2
    obtain rfl : i = 36 := by omega
    refine TL.nil ?_
    refine T.cond_f rfl ?_
    refine T.exit ?_
    refine T.seq ?_
    refine T.region ?_
    refine TL.cons rfl (V1.t (V1.loadN (vs := ascS 36) one_171 sz_171 rfl (RdN.whole z_C) (ascS_len _)) ?_)
    refine TL.cons rfl (T1.storeN (vs := ascS 36) rfl rfl sz_171 (ascS_ones _) z_G (ascS_len _) (by simp only [ascS_len]) ?_)
    refine TL.cons rfl (V1.t (V1.assign' z_D) ?_)
    refine TL.nil ?_
    refine T.ret ?_
    exact ⟨_, [], _, .cons (.cellN z_D one_171 sz_171 (RdN.whole (cells := ascS 36) z_C) (ascS_len _)) (.cons (.tmp z_D) .nil), Take.nil, rfl, rfl⟩

set_option maxRecDepth 100000 in
theorem contains_any (w0 : World) (b : Nat) (c : UInt8) : FnX P 151 [.pointer (some ⟨b, 0, none⟩), byteV c] w0 [] [(⟨b, 0, ascS 36, 256⟩ : Blk)] (fun v Y => v = .bool (low c) ∧ Y = [(⟨b, 0, ascS 36, 256⟩ : Blk)]) := by
  refine FnX.of 10 [.tmp 4] Go.Proofs.Tryz.func151 rfl rfl rfl rfl (fun G => ?_)
  simp only [List.cons_append, List.nil_append]
  refine T.seq ?_
  refine T.region ?_
  refine TL.cons rfl (V1.t (V1.assign' z_D) ?_)
  refine TL.nil ?_
  refine T.seq ?_
  refine T.region ?_
  refine TL.cons rfl (V1.t (V1.move' z_D) ?_)
  refine TL.cons rfl (V1.t (V1.move' z_D) ?_)
  refine TL.cons rfl (V1.t (V1.nilCheck rfl) ?_)
  refine TL.cons rfl (V1.t (V1.indexAddrA ty_171 sz_4 rfl rfl (by omega) (by have := c.toNat_lt; omega)) ?_)
  refine TL.cons rfl (V1.t (V1.load1 one_4 rfl (Rd.low z_C)) ?_)
  refine TL.cons rfl (V1.t (V1.assign' z_D) ?_)
  refine TL.nil ?_
  refine T.ret ?_
  exact ⟨_, ⟨b, 0, ascS 36, 256⟩ :: G, _, .cons (.tmp z_D) .nil, z_A, [(⟨b, 0, ascS 36, 256⟩ : Blk)], rfl, rfl, rfl⟩

set_option maxRecDepth 100000 in
theorem trimRight_any (w0 : World) (b : Nat) (l : List UInt8) (hl : l.length ≤ 1000000) : FnX P 134 [.string (bstr l), .pointer (some ⟨b, 0, none⟩)] w0 [] [(⟨b, 0, ascS 36, 256⟩ : Blk)] (fun v Y => (∃ k, k ≤ l.length ∧ v = .string (bstr (l.take k)) ∧ (∀ i, k ≤ i → ∀ x, l[i]? = some x → low x = true) ∧ (k = 0 ∨ ∃ x, l[k - 1]? = some x ∧ low x = false)) ∧ Y = [(⟨b, 0, ascS 36, 256⟩ : Blk)]) := by
  refine FnX.of 22 [.tmp 4] Go.Proofs.Tryz.func134 rfl rfl rfl rfl (fun G => ?_)
  simp only [List.cons_append, List.nil_append]
  refine T.seq ?_
  refine T.region ?_
  refine TL.cons rfl (V1.t (V1.assign' z_D) ?_)
  refine TL.nil ?_
  refine T.seq ?_
  refine T.block ?_
  refine T.loopL (σ := Nat) (l0 := [(1, _)]) (fun x => [(0, .string (bstr (l.take x)))]) (fun k L => L = ⟨b, 0, ascS 36, 256⟩ :: G ∧ k ≤ l.length ∧ (∀ i, k ≤ i → ∀ x, l[i]? = some x → low x = true)) (fun x => x) l.length (.cons (by rw [List.take_length]; rfl) .nil) (.cons z_D .nil) z_A (⟨rfl, Nat.le_refl _, fun i hi x hx => by rw [List.getElem?_eq_none hi] at hx; cases hx⟩) ?_
  rintro k e_ L ⟨rfl, hk, hall⟩
  refine T.seq ?_
  refine T.seq ?_
  refine T.region ?_
  refine TL.cons rfl (V1.t (V1.move' z_D) ?_)
  refine TL.cons rfl (V1.t (V1.lenS ty_9 rfl) ?_)
  refine TL.cons rfl (T1.gtI_split rfl rfl (fun h1 => ?_) (fun h1 => ?_))
  ·
    rw [bstr_size, List.length_take, Nat.min_eq_left hk] at h1
    obtain ⟨x, hx⟩ : ∃ z, l[k - 1]? = some z := ⟨_, List.getElem?_eq_getElem (by omega)⟩
    refine TL.nil ?_
    refine T.cond_t rfl ?_
    refine T.skip ?_
    refine T.block ?_
    refine T.seq ?_
    refine T.seq ?_
    refine T.region ?_
    refine TL.cons rfl (V1.t (V1.move' z_D) ?_)
    refine TL.cons rfl (V1.t (V1.move' z_D) ?_)
    refine TL.cons rfl (V1.t (V1.move' z_D) ?_)
    refine TL.cons rfl (V1.t (V1.lenS ty_9 rfl) ?_)
    refine TL.cons rfl (V1.t (V1.sub (c := ((k - 1 : Nat) : Int)) rfl rfl (by rw [bstr_size, List.length_take, Nat.min_eq_left hk, wrap_i64 _ (by omega) (by omega)]; omega)) ?_)
    refine TL.cons rfl (V1.t (V1.indexStr (s := bstr (l.take k)) (c := x) ty_9 rfl rfl (by omega) (by rw [Int.toNat_natCast]; exact bstr_get (by rw [List.getElem?_take, if_pos (by omega)]; exact hx))) ?_)
    refine TL.cons rfl (T1.callX (X := [(⟨b, 0, ascS 36, 256⟩ : Blk)]) has_151 rfl (contains_any _ b x) z_A (fun v_ Y_ hY => ?_))
    obtain ⟨rfl, hzz⟩ := hY
    rw [hzz]
    simp only [List.cons_append, List.nil_append]
    rcases Bool.eq_false_or_eq_true (low x) with hdx | hdx <;> rw [hdx]
    ·
      refine TL.cons rfl (V1.t (V1.not rfl rfl) ?_)
      refine TL.nil ?_
      refine T.cond_f rfl ?_
      refine T.skip ?_
      refine T.region ?_
      refine TL.cons rfl (V1.t (V1.move' z_D) ?_)
      refine TL.cons rfl (V1.t (V1.move' z_D) ?_)
      refine TL.cons rfl (V1.t (V1.lenS ty_9 rfl) ?_)
      refine TL.cons rfl (V1.t (V1.sub (c := ((k - 1 : Nat) : Int)) rfl rfl (by rw [bstr_size, List.length_take, Nat.min_eq_left hk, wrap_i64 _ (by omega) (by omega)]; omega)) ?_)
      refine TL.cons rfl (V1.t (V1.sliceB (s := l.take k) 0 (k - 1) ty_9 rfl rfl rfl (by omega) (by rw [List.length_take]; omega)) ?_)
      rw [show ((l.take k).drop 0).take (k - 1 - 0) = l.take (k - 1) from by rw [List.drop_zero, Nat.sub_zero, List.take_take, Nat.min_eq_left (by omega)]]
      refine TL.cons rfl (V1.t (V1.assign' z_D) ?_)
      refine TL.nil ?_
      exact ⟨k - 1, _, _, (by simp only; omega), (.cons rfl .nil), (.cons rfl .nil), z_A, ⟨rfl, by omega, fun i hi y hy => by rcases Nat.lt_or_ge i k with h | h; (obtain rfl : i = k - 1 := by omega); (rw [hx] at hy; rw [← Option.some.inj hy]; exact hdx); exact hall i h y hy⟩⟩
    ·
      refine TL.cons rfl (V1.t (V1.not rfl rfl) ?_)
      refine TL.nil ?_
      refine T.cond_t rfl ?_
      refine T.exit ?_
      refine T.seq ?_
      refine T.region ?_
      refine TL.cons rfl (V1.t (V1.move' z_D) ?_)
      refine TL.cons rfl (V1.t (V1.assign' z_D) ?_)
      refine TL.nil ?_
      refine T.ret ?_
      exact ⟨_, ⟨b, 0, ascS 36, 256⟩ :: G, _, .cons (.tmp z_D) .nil, z_A, [(⟨b, 0, ascS 36, 256⟩ : Blk)], rfl, ⟨k, hk, rfl, hall, .inr ⟨x, hx, hdx⟩⟩, rfl⟩
  ·
    rw [bstr_size, List.length_take, Nat.min_eq_left hk] at h1
    have hk0 : k = 0 := by omega
    refine TL.nil ?_
    refine T.cond_f rfl ?_
    refine T.exit ?_
    refine T.seq ?_
    refine T.region ?_
    refine TL.cons rfl (V1.t (V1.move' z_D) ?_)
    refine TL.cons rfl (V1.t (V1.assign' z_D) ?_)
    refine TL.nil ?_
    refine T.ret ?_
    exact ⟨_, ⟨b, 0, ascS 36, 256⟩ :: G, _, .cons (.tmp z_D) .nil, z_A, [(⟨b, 0, ascS 36, 256⟩ : Blk)], rfl, ⟨k, hk, rfl, hall, .inl hk0⟩, rfl⟩

set_option maxRecDepth 100000 in
theorem trimLeft_any (w0 : World) (b : Nat) (l : List UInt8) (hl : l.length ≤ 1000000) : FnX P 133 [.string (bstr l), .pointer (some ⟨b, 0, none⟩)] w0 [] [(⟨b, 0, ascS 36, 256⟩ : Blk)] (fun v Y => (∃ k, k ≤ l.length ∧ v = .string (bstr (l.drop k)) ∧ (∀ i, i < k → ∀ x, l[i]? = some x → low x = true) ∧ (k = l.length ∨ ∃ x, l[k]? = some x ∧ low x = false)) ∧ Y = [(⟨b, 0, ascS 36, 256⟩ : Blk)]) := by
  refine FnX.of 16 [.tmp 4] Go.Proofs.Tryz.func133 rfl rfl rfl rfl (fun G => ?_)
  simp only [List.cons_append, List.nil_append]
  refine T.seq ?_
  refine T.region ?_
  refine TL.cons rfl (V1.t (V1.assign' z_D) ?_)
  refine TL.nil ?_
  refine T.seq ?_
  refine T.block ?_
  refine T.loopL (σ := Nat) (l0 := [(1, _)]) (fun x => [(0, .string (bstr (l.drop x)))]) (fun k L => L = ⟨b, 0, ascS 36, 256⟩ :: G ∧ k ≤ l.length ∧ (∀ i, i < k → ∀ x, l[i]? = some x → low x = true)) (fun x => l.length - x) 0 (.cons rfl .nil) (.cons z_D .nil) z_A (⟨rfl, Nat.zero_le _, fun i hi => absurd hi (Nat.not_lt_zero _)⟩) ?_
  rintro k e_ L ⟨rfl, hk, hall⟩
  refine T.seq ?_
  refine T.seq ?_
  refine T.region ?_
  refine TL.cons rfl (V1.t (V1.move' z_D) ?_)
  refine TL.cons rfl (V1.t (V1.lenS ty_9 rfl) ?_)
  refine TL.cons rfl (T1.gtI_split rfl rfl (fun h1 => ?_) (fun h1 => ?_))
  ·
    rw [bstr_size, List.length_drop] at h1
    obtain ⟨x, hx⟩ : ∃ z, l[k]? = some z := ⟨_, List.getElem?_eq_getElem (by omega)⟩
    refine TL.nil ?_
    refine T.cond_t rfl ?_
    refine T.skip ?_
    refine T.block ?_
    refine T.seq ?_
    refine T.seq ?_
    refine T.region ?_
    refine TL.cons rfl (V1.t (V1.move' z_D) ?_)
    refine TL.cons rfl (V1.t (V1.move' z_D) ?_)
    refine TL.cons rfl (V1.t (V1.indexStr (s := bstr (l.drop k)) (c := x) ty_9 rfl rfl (by omega) (bstr_get (show (l.drop k)[0]? = some x by rw [List.getElem?_drop, Nat.add_zero]; exact hx))) ?_)
    refine TL.cons rfl (T1.callX (X := [(⟨b, 0, ascS 36, 256⟩ : Blk)]) has_151 rfl (contains_any _ b x) z_A (fun v_ Y_ hY => ?_))
    obtain ⟨rfl, hzz⟩ := hY
    rw [hzz]
    simp only [List.cons_append, List.nil_append]
    rcases Bool.eq_false_or_eq_true (low x) with hdx | hdx <;> rw [hdx]
    ·
      refine TL.cons rfl (V1.t (V1.not rfl rfl) ?_)
      refine TL.nil ?_
      refine T.cond_f rfl ?_
      refine T.skip ?_
      refine T.region ?_
      refine TL.cons rfl (V1.t (V1.move' z_D) ?_)
      refine TL.cons rfl (V1.t (V1.sliceB (s := l.drop k) 1 (l.drop k).length ty_9 rfl rfl rfl (by rw [List.length_drop]; omega) (Nat.le_refl _)) ?_)
      rw [show ((l.drop k).drop 1).take ((l.drop k).length - 1) = l.drop (k + 1) from by rw [List.drop_drop, List.take_of_length_le (by rw [List.length_drop, List.length_drop]; omega)]]
      refine TL.cons rfl (V1.t (V1.assign' z_D) ?_)
      refine TL.nil ?_
      exact ⟨k + 1, _, _, (by simp only; omega), (.cons rfl .nil), (.cons rfl .nil), z_A, ⟨rfl, by omega, fun i hi y hy => by rcases Nat.lt_or_ge i k with h | h; exact hall i h y hy; (obtain rfl : i = k := by omega); (rw [hx] at hy; rw [← Option.some.inj hy]; exact hdx)⟩⟩
    ·
      refine TL.cons rfl (V1.t (V1.not rfl rfl) ?_)
      refine TL.nil ?_
      refine T.cond_t rfl ?_
      refine T.exit ?_
      refine T.seq ?_
      refine T.region ?_
      refine TL.cons rfl (V1.t (V1.move' z_D) ?_)
      refine TL.cons rfl (V1.t (V1.assign' z_D) ?_)
      refine TL.nil ?_
      refine T.ret ?_
      exact ⟨_, ⟨b, 0, ascS 36, 256⟩ :: G, _, .cons (.tmp z_D) .nil, z_A, [(⟨b, 0, ascS 36, 256⟩ : Blk)], rfl, ⟨k, hk, rfl, hall, .inr ⟨x, hx, hdx⟩⟩, rfl⟩
  ·
    rw [bstr_size, List.length_drop] at h1
    have hk0 : k = l.length := by omega
    refine TL.nil ?_
    refine T.cond_f rfl ?_
    refine T.exit ?_
    refine T.seq ?_
    refine T.region ?_
    refine TL.cons rfl (V1.t (V1.move' z_D) ?_)
    refine TL.cons rfl (V1.t (V1.assign' z_D) ?_)
    refine TL.nil ?_
    refine T.ret ?_
    exact ⟨_, ⟨b, 0, ascS 36, 256⟩ :: G, _, .cons (.tmp z_D) .nil, z_A, [(⟨b, 0, ascS 36, 256⟩ : Blk)], rfl, ⟨k, hk, rfl, hall, .inl hk0⟩, rfl⟩

theorem trim_all {l : List UInt8} {k j : Nat} (hk : k ≤ l.length) (h1 : ∀ i, k ≤ i → ∀ x, l[i]? = some x → low x = true) (h2 : k = 0 ∨ ∃ x, l[k - 1]? = some x ∧ low x = false)
    (hj : j ≤ (l.take k).length) (h3 : ∀ i, i < j → ∀ x, (l.take k)[i]? = some x → low x = true) (h4 : j = (l.take k).length ∨ ∃ x, (l.take k)[j]? = some x ∧ low x = false) : (l.take k).drop j = [] ↔ ∀ x ∈ l, low x = true := by
  have hlk : (l.take k).length = k := by rw [List.length_take]; omega
  rw [hlk] at hj h4
  constructor
  · intro h x hx
    have hjk : j = k := by
      have := congrArg List.length h
      rw [List.length_drop, hlk, List.length_nil] at this; omega
    obtain ⟨i, hi⟩ := List.getElem?_of_mem hx
    rcases Nat.lt_or_ge i k with hik | hik
    · exact h3 i (by omega) x (by rw [List.getElem?_take, if_pos hik]; exact hi)
    · exact h1 i hik x hi
  · intro h
    have hjk : j = k := by
      rcases h4 with h4 | ⟨x, hx, hd⟩
      · exact h4
      · have := h x (List.mem_of_mem_take (List.mem_of_getElem? hx))
        rw [this] at hd; cases hd
    rw [List.drop_of_length_le (by omega)]

set_option maxRecDepth 100000 in
theorem Trim_any (l : List UInt8) (w : World) (hl : l.length ≤ 1000000) : Fn P 100 [.string (bstr l), .string (bstr lowS)] w [] (fun v Y => Y = [] ∧ ∃ r, v = .string (bstr r) ∧ (r = [] ↔ ∀ x ∈ l, low x = true)) := by
  refine Fn.of 43 [.tmp 4] Go.Proofs.Tryz.func100 rfl rfl rfl rfl ?_
  refine T.seq ?_
  refine T.region ?_
  refine TL.cons rfl (V1.t (V1.assign' z_D) ?_)
  refine TL.nil ?_
  refine T.seq ?_
  refine T.seq ?_
  refine T.region ?_
  refine TL.cons rfl (V1.t (V1.move' z_D) ?_)
  refine TL.cons rfl (T1.eqS_split (l := l) (m := []) rfl rfl (fun h1 => ?_) (fun h1 => ?_))
  ·
    refine TL.cons rfl (V1.t (V1.move' z_D) ?_)
    refine TL.no rfl ?_
    refine TL.no rfl ?_
    refine TL.cons rfl (V1.t (V1.pick rfl z_D) ?_)
    refine TL.nil ?_
    refine T.cond_t rfl ?_
    refine T.seq ?_
    refine T.region ?_
    refine TL.cons rfl (V1.t (V1.move' z_D) ?_)
    refine TL.cons rfl (V1.t (V1.assign' z_D) ?_)
    refine TL.nil ?_
    refine T.ret ?_
    exact ⟨_, [], _, .cons (.tmp z_D) .nil, Take.nil, rfl, l, rfl, by rw [h1]; simp⟩
  ·
    refine TL.cons rfl (V1.t (V1.move' z_D) ?_)
    refine TL.cons rfl (V1.t (V1.move' z_D) ?_)
    refine TL.cons rfl (V1.t (V1.eqS (r := false) rfl rfl (by decide)) ?_)
    refine TL.cons rfl (V1.t (V1.pick rfl z_D) ?_)
    refine TL.nil ?_
    refine T.cond_f rfl ?_
    refine T.skip ?_
    refine T.seq ?_
    refine T.seq ?_
    refine T.region ?_
    refine TL.cons rfl (V1.t (V1.move' z_D) ?_)
    refine TL.cons rfl (V1.t (V1.lenS ty_9 rfl) ?_)
    refine TL.cons rfl (V1.t (V1.eqI (r := false) rfl rfl (by decide)) ?_)
    refine TL.cons rfl (V1.t (V1.move' z_D) ?_)
    refine TL.no rfl ?_
    refine TL.no rfl ?_
    refine TL.no rfl ?_
    refine TL.cons rfl (V1.t (V1.pick rfl z_D) ?_)
    refine TL.nil ?_
    refine T.cond_f rfl ?_
    refine T.skip ?_
    refine T.seq ?_
    refine T.seq ?_
    refine T.live (l := [(0, _), (1, _)]) (.cons z_D (.cons z_D .nil)) (fun e_ => ?_)
    refine T.region ?_
    refine TL.cons rfl (V1.t (V1.move' z_D) ?_)
    refine TL.cons rfl (T1.call0 has_132 rfl (fun w hs => makeASCIISet_any w) (fun v_ hv => ?_))
    obtain rfl := hv
    refine TL.cons rfl (V1.t (V1.move' z_D) ?_)
    refine TL.cons rfl (V1.t (V1.extract rfl (by rfl)) ?_)
    refine TL.cons rfl (V1.t (V1.extract rfl (by rfl)) ?_)
    refine TL.cons rfl (T1.allocN 256 zr_171 rfl (fun b5 => ?_))
    refine TL.cons rfl (T1.storeN (vs := ascS 36) rfl rfl sz_171 (ascS_ones _) z_G (ascS_len _) (ascS_len _) ?_)
    refine TL.cons rfl (V1.t (V1.assign' rfl) ?_)
    refine TL.nil ?_
    refine T.seq ?_
    refine T.region ?_
    refine TL.cons rfl (V1.t (V1.move' z_D) ?_)
    refine TL.nil ?_
    refine T.cond_t rfl ?_
    refine T.seq ?_
    refine T.region ?_
    refine TL.cons rfl (V1.t (V1.move' z_D) ?_)
    refine TL.cons rfl (T1.callX (X := [(⟨b5, 0, ascS 36, 256⟩ : Blk)]) has_134 rfl (trimRight_any _ b5 l hl) z_A (fun v_ Y_ hY => ?_))
    obtain ⟨⟨k, hk, rfl, hr1, hr2⟩, hzz⟩ := hY
    rw [hzz]
    simp only [List.cons_append, List.nil_append]
    refine TL.cons rfl (T1.callX (X := [(⟨b5, 0, ascS 36, 256⟩ : Blk)]) has_133 rfl (trimLeft_any _ b5 (l.take k) (by rw [List.length_take]; omega)) z_A (fun v_ Y_ hY => ?_))
    obtain ⟨⟨j, hj, rfl, hl1, hl2⟩, hzz⟩ := hY
    rw [hzz]
    simp only [List.cons_append, List.nil_append]
    refine TL.cons rfl (V1.t (V1.assign' z_D) ?_)
    refine TL.nil ?_
    refine T.ret ?_
    exact ⟨_, [], _, .cons (.tmp z_D) .nil, Take.nil, rfl, _, rfl, trim_all hk hr1 hr2 hj hl1 hl2⟩

end Go.Proofs.YtlpkcbkflfbclaaGreatDoor.S
