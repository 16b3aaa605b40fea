/- Reading: so many bytes, a number, data. -/
import Derived.Test.YtijijaobialncaaFr1
namespace Go.Proofs.Ytijijaobialncaa.S
open Go.RowKit

/-- What taking k bytes hands back: the reader lies at b; its bytes are l. -/
def takeR (w0 : World) (b : Nat) (bad : Int) (l : List UInt8) (k : Nat) (v : Value) (Y : List Blk) : Prop :=
  (bad = 0 ∧ k ≤ l.length ∧ SlR w0 v 1 k ((l.take k).map byteV) ∧ ∃ rest', SlR w0 rest' 1 (l.length - k) ((l.drop k).map byteV) ∧ Y = [⟨b, 0, [rest', .int .i64 0], 2⟩]) ∨
  ((bad ≠ 0 ∨ l.length < k) ∧ ∃ bz rest', v = .slice (some ⟨bz, 0, none⟩) (min k 64) (min k 64) ∧ SlR w0 rest' 1 l.length (l.map byteV) ∧ Y = [⟨b, 0, [rest', .int .i64 (if bad = 0 then 111 else bad)], 2⟩, ⟨bz, 0, List.replicate (min k 64) (byteV 0), min k 64⟩])
/-- The same, for whoever reads what was taken. -/
theorem takeR.rd {C : Ctx} {b : Nat} {bad : Int} {l : List UInt8} {k : Nat} {v : Value} {Y : List Blk} (h : takeR C.w0 b bad l k v Y) (hm : C.M = []) (hk : 0 < k) (h64 : k ≤ 64) : ∃ (Z : List Blk) (rest' : Value) (bad' : Int) (bk ok c : Nat) (xs : List UInt8),
    v = .slice (some ⟨bk, ok, none⟩) k c ∧ k ≤ c ∧ Y = ⟨b, 0, [rest', .int .i64 bad'], 2⟩ :: Z ∧ (∀ G, RdN C (Y ++ G) ⟨bk, ok, none⟩ (xs.map byteV)) ∧ xs.length = k ∧ (bad' = 0 ∨ bad' = 111 ∨ bad' = bad) ∧
      ((bad = 0 ∧ bad' = 0 ∧ k ≤ l.length ∧ xs = l.take k ∧ SlR C.w0 rest' 1 (l.length - k) ((l.drop k).map byteV)) ∨ ((bad ≠ 0 ∨ l.length < k) ∧ bad' = (if bad = 0 then 111 else bad) ∧ xs = List.replicate k 0 ∧ SlR C.w0 rest' 1 l.length (l.map byteV))) := by
  rcases h with ⟨h1, h2, h3, rest', h4, rfl⟩ | ⟨h1, bz, rest', rfl, h5, rfl⟩
  · rcases h3 with ⟨_, h, _⟩ | ⟨bk, ok, c, rfl, hc, hl, hcells⟩
    · omega
    · exact ⟨[], rest', 0, bk, ok, c, l.take k, rfl, hc, rfl, fun G => RdN.old hcells (by rw [hm]; simp), by rw [List.length_take]; omega, .inl rfl, .inl ⟨h1, rfl, h2, rfl, h4⟩⟩
  · have e : min k 64 = k := by omega
    rw [e]
    refine ⟨_, rest', _, bz, 0, k, List.replicate k 0, rfl, Nat.le_refl _, rfl, fun G => ?_, by simp, ?_, .inr ⟨h1, rfl, rfl, h5⟩⟩
    · rw [List.map_replicate]
      exact RdN.whole (.there .here)
    · split
      · exact .inr (.inl rfl)
      · exact .inr (.inr rfl)

set_option maxRecDepth 100000 in
theorem take_any (b k : Nat) (rest : Value) (bad : Int) (l : List UInt8) (w0 : World) (hr : SlR w0 rest 1 l.length (l.map byteV)) (hk : k ≤ 1099511627776) (hl : l.length < 9223372036854775808) : FnX P 29 [.pointer (some ⟨b, 0, none⟩), .int .i64 k] w0 [] [⟨b, 0, [rest, .int .i64 bad], 2⟩] (takeR w0 b bad l k) := by
  obtain ⟨ra, rc, rfl⟩ := hr.form
  refine FnX.of 47 [.tmp 4] Go.Proofs.Try.func29 rfl rfl rfl rfl (fun G => ?_)
  refine T.seq ?_
  refine T.region ?_
  refine TL.cons rfl (V1.t (V1.assign' z_B) ?_)
  refine TL.nil ?_
  refine T.seq ?_
  refine T.seq ?_
  refine T.region ?_
  refine TL.cons rfl (V1.t (V1.move' z_B) ?_)
  refine TL.cons rfl (V1.t (V1.nilCheck rfl) ?_)
  refine TL.cons rfl (V1.t (V1.fieldAddr fl_78_1 rfl) ?_)
  refine TL.cons rfl (V1.t (V1.load1 one_25 rfl (.own z_D (by rfl))) ?_)
  refine TL.cons rfl (T1.eqI_split rfl rfl (fun h1_4 => ?_) (fun h1_4 => ?_))
  ·
    subst h1_4
    refine TL.cons rfl (V1.t (V1.move' z_B) ?_)
    refine TL.cons rfl (V1.t (V1.move' z_B) ?_)
    refine TL.cons rfl (V1.t (V1.move' z_B) ?_)
    refine TL.cons rfl (V1.t (V1.nilCheck rfl) ?_)
    refine TL.cons rfl (V1.t (V1.fieldAddr fl_78_0 rfl) ?_)
    refine TL.cons rfl (V1.t (V1.load1 one_29 rfl (.own z_D (by rfl))) ?_)
    refine TL.cons rfl (V1.t (V1.lenSl ty_29 rfl) ?_)
    refine TL.cons rfl (T1.gtI_split rfl rfl (fun h1_12 => ?_) (fun h1_12 => ?_))
    ·
      refine TL.cons rfl (V1.t (V1.pick rfl z_B) ?_)
      refine TL.nil ?_
      refine T.cond_t rfl ?_
      refine T.live (l := [(0, _), (1, _)]) (.cons z_B (.cons z_B .nil)) (fun e_ => ?_)
      refine T.region ?_
      refine TL.cons rfl (V1.t (V1.move' z_B) ?_)
      refine TL.cons rfl (V1.t (V1.nilCheck rfl) ?_)
      refine TL.cons rfl (V1.t (V1.fieldAddr fl_78_1 rfl) ?_)
      refine TL.cons rfl (T1.store1 rfl rfl sz_25 rfl z_H (Nat.zero_le _) z_J ?_)
      refine TL.nil ?_
      refine T.seq ?_
      refine T.seq ?_
      refine T.region ?_
      refine TL.cons rfl (V1.t (V1.move' z_B) ?_)
      refine TL.cons rfl (V1.t (V1.nilCheck rfl) ?_)
      refine TL.cons rfl (V1.t (V1.fieldAddr fl_78_1 rfl) ?_)
      refine TL.cons rfl (V1.t (V1.load1 one_25 rfl (.own z_D (by rfl))) ?_)
      refine TL.cons rfl (V1.t (V1.neI rfl rfl (decide_eq_true (by omega))) ?_)
      refine TL.nil ?_
      refine T.cond_t rfl ?_
      refine T.seq ?_
      refine T.region ?_
      refine TL.cons rfl (V1.t (V1.move' z_B) ?_)
      refine TL.cons rfl (V1.t (V1.min2 (c := ((min k 64 : Nat) : Int)) rfl rfl (by omega)) ?_)
      refine TL.cons rfl (T1.make1 (min k 64) (min k 64) ty_29 sz_5 by_5 zr_5 rfl rfl rfl (Nat.le_refl _) (by omega) (by omega) (fun bz => ?_))
      refine TL.cons rfl (V1.t (V1.assign' z_B) ?_)
      refine TL.nil ?_
      refine T.ret ?_
      exact ⟨_, _, _, .cons (.tmp z_B) .nil, z_A, [⟨b, 0, [.slice ra l.length rc, .int .i64 111], 2⟩, ⟨bz, 0, List.replicate (min k 64) (byteV 0), min k 64⟩], rfl, .inr ⟨(.inr (by omega)), bz, _, rfl, hr, by rfl⟩⟩
    ·
      refine TL.cons rfl (V1.t (V1.pick rfl z_B) ?_)
      refine TL.nil ?_
      refine T.cond_f rfl ?_
      refine T.skip ?_
      refine T.seq ?_
      refine T.seq ?_
      refine T.live (l := [(0, _), (1, _)]) (.cons z_B (.cons z_B .nil)) (fun e_ => ?_)
      refine T.region ?_
      refine TL.cons rfl (V1.t (V1.move' z_B) ?_)
      refine TL.cons rfl (V1.t (V1.nilCheck rfl) ?_)
      refine TL.cons rfl (V1.t (V1.fieldAddr fl_78_1 rfl) ?_)
      refine TL.cons rfl (V1.t (V1.load1 one_25 rfl (.own z_D (by rfl))) ?_)
      refine TL.cons rfl (V1.t (V1.neI rfl rfl (decide_eq_false (by omega))) ?_)
      refine TL.nil ?_
      refine T.cond_f rfl ?_
      refine T.skip ?_
      refine T.seq ?_
      refine T.region ?_
      refine TL.cons rfl (V1.t (V1.move' z_B) ?_)
      refine TL.cons rfl (V1.t (V1.nilCheck rfl) ?_)
      refine TL.cons rfl (V1.t (V1.fieldAddr fl_78_0 rfl) ?_)
      refine TL.cons rfl (V1.t (V1.load1 one_29 rfl (.own z_D (by rfl))) ?_)
      refine TL.cons rfl (V1.t (V1.move' z_B) ?_)
      refine TL.cons rfl (T1.sliceR ty_29 sz_5 rfl hr 0 k rfl rfl (Nat.zero_le _) (by omega) (fun v1 hv1 => ?_))
      refine TL.cons rfl (V1.t (V1.assign' z_B) ?_)
      refine TL.nil ?_
      refine T.seq ?_
      refine T.region ?_
      refine TL.cons rfl (V1.t (V1.move' z_B) ?_)
      refine TL.cons rfl (V1.t (V1.move' z_B) ?_)
      refine TL.cons rfl (V1.t (V1.nilCheck rfl) ?_)
      refine TL.cons rfl (V1.t (V1.fieldAddr fl_78_0 rfl) ?_)
      refine TL.cons rfl (V1.t (V1.load1 one_29 rfl (.own z_D (by rfl))) ?_)
      refine TL.cons rfl (V1.t (V1.move' z_B) ?_)
      refine TL.cons rfl (T1.sliceR ty_29 sz_5 rfl hr k l.length rfl rfl (by omega) (Nat.le_refl _) (fun v2 hv2 => ?_))
      refine TL.cons rfl (V1.t (V1.nilCheck rfl) ?_)
      refine TL.cons rfl (V1.t (V1.fieldAddr fl_78_0 rfl) ?_)
      refine TL.cons rfl (T1.store1 rfl rfl sz_29 hv2.one z_H (Nat.zero_le _) z_J ?_)
      refine TL.nil ?_
      refine T.seq ?_
      refine T.live (l := [(5, _)]) (.cons z_B .nil) (fun e_ => ?_)
      refine T.region ?_
      refine TL.cons rfl (V1.t (V1.move' z_B) ?_)
      refine TL.cons rfl (V1.t (V1.assign' z_B) ?_)
      refine TL.nil ?_
      refine T.ret ?_
      have e1 : (List.map byteV l).drop (0 * 1) = List.map byteV l := rfl
      rw [e1, Nat.sub_zero, Nat.mul_one, ← List.map_take] at hv1
      rw [Nat.mul_one, Nat.mul_one, ← List.map_drop, List.take_of_length_le (by simp)] at hv2
      exact ⟨_, _, _, .cons (.tmp z_B) .nil, z_A, [⟨b, 0, [v2, .int .i64 0], 2⟩], rfl, .inl ⟨rfl, by omega, hv1, v2, hv2, rfl⟩⟩
  ·
    refine TL.cons rfl (V1.t (V1.move' z_B) ?_)
    refine TL.no rfl ?_
    refine TL.no rfl ?_
    refine TL.no rfl ?_
    refine TL.no rfl ?_
    refine TL.no rfl ?_
    refine TL.no rfl ?_
    refine TL.no rfl ?_
    refine TL.cons rfl (V1.t (V1.pick rfl z_B) ?_)
    refine TL.nil ?_
    refine T.cond_f rfl ?_
    refine T.skip ?_
    refine T.seq ?_
    refine T.seq ?_
    refine T.live (l := [(0, _), (1, _)]) (.cons z_B (.cons z_B .nil)) (fun e_ => ?_)
    refine T.region ?_
    refine TL.cons rfl (V1.t (V1.move' z_B) ?_)
    refine TL.cons rfl (V1.t (V1.nilCheck rfl) ?_)
    refine TL.cons rfl (V1.t (V1.fieldAddr fl_78_1 rfl) ?_)
    refine TL.cons rfl (V1.t (V1.load1 one_25 rfl (.own z_D (by rfl))) ?_)
    refine TL.cons rfl (V1.t (V1.neI rfl rfl (decide_eq_true (by omega))) ?_)
    refine TL.nil ?_
    refine T.cond_t rfl ?_
    refine T.seq ?_
    refine T.region ?_
    refine TL.cons rfl (V1.t (V1.move' z_B) ?_)
    refine TL.cons rfl (V1.t (V1.min2 (c := ((min k 64 : Nat) : Int)) rfl rfl (by omega)) ?_)
    refine TL.cons rfl (T1.make1 (min k 64) (min k 64) ty_29 sz_5 by_5 zr_5 rfl rfl rfl (Nat.le_refl _) (by omega) (by omega) (fun bz => ?_))
    refine TL.cons rfl (V1.t (V1.assign' z_B) ?_)
    refine TL.nil ?_
    refine T.ret ?_
    exact ⟨_, _, _, .cons (.tmp z_B) .nil, z_A, [⟨b, 0, [.slice ra l.length rc, .int .i64 bad], 2⟩, ⟨bz, 0, List.replicate (min k 64) (byteV 0), min k 64⟩], rfl, .inr ⟨(.inl h1_4), bz, _, rfl, hr, by rw [if_neg h1_4]⟩⟩

theorem four {xs : List UInt8} (h : xs.length = 4) : ∃ c0 c1 c2 c3, xs = [c0, c1, c2, c3] := by
  match xs, h with
  | [c0, c1, c2, c3], _ => exact ⟨_, _, _, _, rfl⟩
theorem rd32_four {l : List UInt8} {c0 c1 c2 c3 : UInt8} (h : [c0, c1, c2, c3] = l.take 4) : 2 ^ 8 * (2 ^ 8 * (2 ^ 8 * c0.toNat + c1.toNat) + c2.toNat) + c3.toNat = rd32 l 0 := by
  match l, h with
  | d0 :: d1 :: d2 :: d3 :: r, h =>
    simp at h
    obtain ⟨rfl, rfl, rfl, rfl⟩ := h
    simp [rd32]; omega
  | [], h => simp at h
  | [_], h => simp at h
  | [_, _], h => simp at h
  | [_, _, _], h => simp at h
theorem shl_u32 {k : Int} (i x : Nat) (hm : min k.toNat 32 = i) (h : 2 ^ i * x < 4294967296) : IntKind.u32.wrap ((x : Int) * 2 ^ (min k.toNat IntKind.u32.bits)) = ((2 ^ i * x : Nat) : Int) := by
  have e : min k.toNat IntKind.u32.bits = i := hm
  rw [e, wrap_u32_mod]
  have : ((x : Int) * 2 ^ i) = ((2 ^ i * x : Nat) : Int) := by rw [Nat.mul_comm]; simp
  rw [this]; omega
theorem rd32_lt (l : List UInt8) (i : Nat) : rd32 l i < 4294967296 := by
  have u0 := u8_lt (l.getD i 0)
  have u1 := u8_lt (l.getD (i + 1) 0)
  have u2 := u8_lt (l.getD (i + 2) 0)
  have u3 := u8_lt (l.getD (i + 3) 0)
  unfold rd32; omega
/-- What reading a number hands back. -/
def numR (w0 : World) (b : Nat) (bad : Int) (l : List UInt8) (v : Value) (Y : List Blk) : Prop :=
  ∃ (rest' : Value) (bad' : Int) (n : Nat), v = .int .u32 n ∧ Y = [⟨b, 0, [rest', .int .i64 bad'], 2⟩] ∧
    ((bad = 0 ∧ bad' = 0 ∧ 4 ≤ l.length ∧ n = rd32 l 0 ∧ SlR w0 rest' 1 (l.length - 4) ((l.drop 4).map byteV)) ∨ ((bad ≠ 0 ∨ l.length < 4) ∧ bad' = (if bad = 0 then 111 else bad) ∧ n = 0 ∧ SlR w0 rest' 1 l.length (l.map byteV)))

set_option maxRecDepth 100000 in
theorem readnumber_any (b : Nat) (rest : Value) (bad : Int) (l : List UInt8) (w0 : World) (hr : SlR w0 rest 1 l.length (l.map byteV)) (hl : l.length < 9223372036854775808) : FnX P 31 [.pointer (some ⟨b, 0, none⟩)] w0 [] [⟨b, 0, [rest, .int .i64 bad], 2⟩] (numR w0 b bad l) := by
  refine FnX.of 28 [.tmp 2] Go.Proofs.Try.func31 rfl rfl rfl rfl (fun G => ?_)
  refine T.seq ?_
  refine T.region ?_
  refine TL.cons rfl (V1.t (V1.assign' z_B) ?_)
  refine TL.nil ?_
  refine T.seq ?_
  refine T.region ?_
  refine TL.cons rfl (V1.t (V1.move' z_B) ?_)
  refine TL.cons rfl (T1.callX has_29 rfl (take_any b 4 rest bad l w0 hr (by omega) hl) z_A (fun v Y hv => ?_))
  obtain ⟨Z, r2, bad2, bk, ok, c, xs, rfl, hcap, rfl, hrd, hxl, hb2, hcase⟩ := takeR.rd (C := ⟨P, w0, [], 28⟩) hv rfl (by omega) (by omega)
  obtain ⟨c0, c1, c2, c3, rfl⟩ := four hxl
  have u0 := u8_lt c0
  have u1 := u8_lt c1
  have u2 := u8_lt c2
  have u3 := u8_lt c3
  refine TL.cons rfl (V1.t (V1.assign' z_B) ?_)
  refine TL.nil ?_
  refine T.seq ?_
  refine T.drawR mixed ?_
  refine TD.takeR 0 rfl z_F z_F z_F rfl (fun _ _ _ h => h) (V1.move' z_B) ?_
  refine TD.takeR 1 rfl z_F z_F z_F rfl (fun _ _ _ h => h) (V1.indexAddrS ty_29 sz_5 rfl rfl (by decide) (by omega)) ?_
  refine TD.takeR 2 rfl z_F z_F z_F rfl (fun _ _ _ h => h) (V1.load1 one_5 rfl (hrd _ 0 _ rfl)) ?_
  refine TD.takeR 3 rfl z_F z_F z_F rfl (fun _ _ _ h => h) (V1.conv ty_5 ty_27 rfl (wrap_u32 _ (by omega) (by omega))) ?_
  refine TD.takeR 4 rfl z_F z_F z_F rfl (fun _ _ _ h => h) (V1.shl rfl rfl (by decide) (shl_u32 24 c0.toNat rfl (by omega))) ?_
  refine TD.takeR 5 rfl z_F z_F z_F rfl (fun _ _ _ h => h) (V1.move' z_B) ?_
  refine TD.takeR 6 rfl z_F z_F z_F rfl (fun _ _ _ h => h) (V1.indexAddrS ty_29 sz_5 rfl rfl (by decide) (by omega)) ?_
  refine TD.takeR 7 rfl z_F z_F z_F rfl (fun _ _ _ h => h) (V1.load1 one_5 rfl (hrd _ 1 _ rfl)) ?_
  refine TD.takeR 8 rfl z_F z_F z_F rfl (fun _ _ _ h => h) (V1.conv ty_5 ty_27 rfl (wrap_u32 _ (by omega) (by omega))) ?_
  refine TD.takeR 9 rfl z_F z_F z_F rfl (fun _ _ _ h => h) (V1.shl rfl rfl (by decide) (shl_u32 16 c1.toNat rfl (by omega))) ?_
  refine TD.takeR 10 rfl z_F z_F z_F rfl (fun _ _ _ h => h) (V1.bits rfl rfl rfl (or_u32 24 c0.toNat (2 ^ 16 * c1.toNat) rfl rfl (by omega) (by omega))) ?_
  refine TD.takeR 11 rfl z_F z_F z_F rfl (fun _ _ _ h => h) (V1.move' z_B) ?_
  refine TD.takeR 12 rfl z_F z_F z_F rfl (fun _ _ _ h => h) (V1.indexAddrS ty_29 sz_5 rfl rfl (by decide) (by omega)) ?_
  refine TD.takeR 13 rfl z_F z_F z_F rfl (fun _ _ _ h => h) (V1.load1 one_5 rfl (hrd _ 2 _ rfl)) ?_
  refine TD.takeR 14 rfl z_F z_F z_F rfl (fun _ _ _ h => h) (V1.conv ty_5 ty_27 rfl (wrap_u32 _ (by omega) (by omega))) ?_
  refine TD.takeR 15 rfl z_F z_F z_F rfl (fun _ _ _ h => h) (V1.shl rfl rfl (by decide) (shl_u32 8 c2.toNat rfl (by omega))) ?_
  refine TD.takeR 16 rfl z_F z_F z_F rfl (fun _ _ _ h => h) (V1.bits rfl rfl rfl (or_u32 16 (2 ^ 8 * c0.toNat + c1.toNat) (2 ^ 8 * c2.toNat) (by omega) rfl (by omega) (by omega))) ?_
  refine TD.takeR 17 rfl z_F z_F z_F rfl (fun _ _ _ h => h) (V1.move' z_B) ?_
  refine TD.takeR 18 rfl z_F z_F z_F rfl (fun _ _ _ h => h) (V1.indexAddrS ty_29 sz_5 rfl rfl (by decide) (by omega)) ?_
  refine TD.takeR 19 rfl z_F z_F z_F rfl (fun _ _ _ h => h) (V1.load1 one_5 rfl (hrd _ 3 _ rfl)) ?_
  refine TD.takeR 20 rfl z_F z_F z_F rfl (fun _ _ _ h => h) (V1.conv ty_5 ty_27 rfl (wrap_u32 _ (by omega) (by omega))) ?_
  refine TD.takeR 21 rfl z_F z_F z_F rfl (fun _ _ _ h => h) (V1.bits rfl rfl rfl (or_u32 8 (2 ^ 8 * (2 ^ 8 * c0.toNat + c1.toNat) + c2.toNat) c3.toNat (by omega) rfl (by omega) (by omega))) ?_
  refine TD.takeR 22 rfl z_F z_F z_F rfl (fun _ _ _ h => h) (V1.assign' z_B) ?_
  refine TD.done z_F ?_
  refine T.ret ?_
  refine ⟨_, _, _, .cons (.tmp z_B) .nil, z_A, [⟨b, 0, [r2, .int .i64 bad2], 2⟩], rfl, r2, bad2, _, rfl, rfl, ?_⟩
  rcases hcase with ⟨h1, h2, h3, h4, h5⟩ | ⟨h1, h2, h3, h6⟩
  · exact .inl ⟨h1, h2, h3, rd32_four h4, h5⟩
  · simp only [List.replicate, List.cons.injEq, and_true] at h3
    obtain ⟨rfl, rfl, rfl, rfl⟩ := h3
    exact .inr ⟨h1, h2, by simp, h6⟩

end Go.Proofs.Ytijijaobialncaa.S
