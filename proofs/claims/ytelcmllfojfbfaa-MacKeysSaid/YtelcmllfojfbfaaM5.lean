/- The sum with any key of any bytes is what the standard says, in one part or in several. -/
import Derived.Test.YtelcmllfojfbfaaM4
namespace Go.Proofs.Ytelcmllfojfbfaa.S
open Go.RowKit

open Sh
/-- A piece of a slice that came in. -/
def slV (a : Option Addr) (c l h : Nat) : Value := match a with
  | none => .slice none 0 0
  | some ⟨b, o, _⟩ => .slice (some ⟨b, if c = l then o else o + l, none⟩) (h - l) (c - l)
theorem V1.sliceR1 {C : Ctx} {e : Env} {L : List Blk} {dst : Option Tmp} {ty : TypeId} {pos : String} {after : Array Edge} {guard : Option (Nat × Bool)} {t el : TypeId} {x : Operand} {lo hi : Option Operand} {w0 : World} {a : Option Addr} {n c : Nat} {vs : List Value} (hT : C.P.underlying t = some (.slice el)) (hk : SizeIs C.P el 1) (hs : SlR w0 (.slice a n c) 1 n vs) (hx : ev C.n e x = .slice a n c) (l h : Nat)
    (hl : bd C.n e lo 0 = some (l : Int)) (hh : bd C.n e hi n = some (h : Int)) (h1 : l ≤ h) (h2 : h ≤ n) : V1 C ⟨dst, .slice t x lo hi none, ty, pos, after, guard⟩ e L (slV a c l h) := by
  rcases hs with ⟨h0, rfl, rfl⟩ | ⟨b, o, c', h0, hle, hlen, hc⟩
  · cases h0
    obtain rfl : h = 0 := by omega
    obtain rfl : l = 0 := by omega
    exact V1.sliceNil hT hk hx hl hh
  · cases h0
    have := V1.sliceSl (dst := dst) (ty := ty) (pos := pos) (after := after) (guard := guard) (L := L) hT hk hx hl hh (by omega) (by omega) (by omega)
    simpa [slV] using this
theorem slV_is {w0 : World} {a : Option Addr} {n c : Nat} {p : List UInt8} (hs : SlR w0 (.slice a n c) 1 n (p.map byteV)) (l h : Nat) (h1 : l ≤ h) (h2 : h ≤ n) : SlR w0 (slV a c l h) 1 (h - l) (((p.drop l).take (h - l)).map byteV) := by
  rcases hs with ⟨h0, rfl, hv⟩ | ⟨b, o, c', h0, hle, hlen, hc⟩
  · cases h0
    have : p = [] := by simpa using hv
    subst this
    obtain rfl : h = 0 := by omega
    exact .inl ⟨rfl, by omega, by simp⟩
  · cases h0
    rw [List.length_map, Nat.mul_one] at hlen
    refine .inr ⟨b, _, _, rfl, by omega, by rw [List.length_map, List.length_take, List.length_drop]; omega, ?_⟩
    rw [List.map_take, List.map_drop]
    split
    · have : h - l = 0 := by omega
      rw [this, List.take_zero]
      intro i u hu; simp at hu
    · exact hc.part
theorem PartR.nil {w0 : World} {Ps : List Blk} : PartR w0 Ps (.slice none 0 0) [] := PartR.own (Ls := []) Sl.nil (fun _ h => by cases h)

set_option maxRecDepth 100000 in
set_option maxHeartbeats 1000000 in
theorem Extract_any (w0 : World) (kv v : Value) (key : List UInt8) (ps : List (List UInt8)) (Ps : List Blk) (hk : PartR w0 Ps kv key) (hkl : key.length ≤ 200000000000000) (hp : PartsR w0 Ps v ps) (hlen : ∀ p ∈ ps, p.length ≤ 200000000000000) (hpn : ps.length < 9223372036854775807) (hfl : ps.flatten.length < 4611686018427387000) : FnX P 30 [kv, v] w0 [] Ps (fun v Y => v = .agg ((hmac key ps.flatten).map byteV).toArray ∧ Y = Ps) := by
  refine FnX.of 8 [.cell 4 26] Go.Proofs.Try.func30 rfl rfl rfl rfl (fun G => ?_)
  refine T.seq ?_
  refine T.region ?_
  refine TL.cons rfl (T1.allocN 32 zr_26 rfl (fun b4 => ?_))
  refine TL.nil ?_
  refine T.seq ?_
  refine T.region ?_
  refine TL.cons rfl (V1.t (V1.move' (by (conv => lhs; whnf) <;> rfl)) ?_)
  refine TL.cons rfl (V1.t (V1.move' (by (conv => lhs; whnf) <;> rfl)) ?_)
  refine TL.cons rfl (T1.callX (X := Ps) has_25 rfl (mac_any _ _ _ key ps Ps hk hkl hp hlen hpn hfl) (by repeat (first | exact Take.nil | apply Take.one (by repeat (first | exact Pick.here | apply Pick.there | apply Pick.far)) | apply Take.seg (by repeat (first | exact PickS.last | exact PickS.one | exact PickS.here | exact PickS.nil | apply PickS.there | apply PickS.far)) | exact Take.last (by repeat (first | exact PickS.last | exact PickS.one | exact PickS.here | exact PickS.nil | apply PickS.there | apply PickS.far)))) (fun v2 Y hY => ?_))
  obtain ⟨rfl, hzz⟩ := hY
  rw [hzz]
  refine TL.cons rfl (T1.storeN rfl rfl sz_26 (one_bytes _) (by repeat (first | exact Sub.one | apply Sub.there | apply Sub.far)) (by rw [List.length_map, hmac_len]; rfl) (by rw [List.length_map, hmac_len]) ?_)
  refine TL.nil ?_
  refine T.ret ?_
  exact ⟨_, Ps ++ G, _, .cons (.cellN (by (conv => lhs; whnf) <;> rfl) one_26 sz_26 (RdN.whole (by repeat (first | exact Find.here | assumption | apply Find.there | apply Find.far))) (by rw [List.length_map, hmac_len])) .nil, (by repeat (first | exact Take.nil | apply Take.one (by repeat (first | exact Pick.here | apply Pick.there | apply Pick.far)) | apply Take.seg (by repeat (first | exact PickS.last | exact PickS.one | exact PickS.here | exact PickS.nil | apply PickS.there | apply PickS.far)) | exact Take.last (by repeat (first | exact PickS.last | exact PickS.one | exact PickS.here | exact PickS.nil | apply PickS.there | apply PickS.far)))), Ps, rfl, rfl, rfl⟩

set_option maxRecDepth 100000 in
set_option maxHeartbeats 8000000 in
theorem MacSums_any (v0 v1 : Value) (key m : List UInt8) (at_ : Int) (w0 : World) (hk : SlR w0 v0 1 key.length (key.map byteV)) (hm : SlR w0 v1 1 m.length (m.map byteV)) : Fn P 6 [v0, v1, .int .i64 at_] w0 [] (fun v _ => v = .bool true) := by
  obtain ⟨ka, kc, rfl⟩ := hk.form
  obtain ⟨ma, mc, rfl⟩ := hm.form
  obtain ⟨k2, hk2d⟩ : ∃ z, z = key.take 300 := ⟨_, rfl⟩
  have hk2l : k2.length ≤ 300 := by rw [hk2d, List.length_take]; omega
  have hk2 := slV_is hk 0 (min key.length 300) (Nat.zero_le _) (Nat.min_le_left _ _)
  rw [Nat.sub_zero, List.drop_zero, show key.take (min key.length 300) = k2 from by rw [hk2d, List.take_eq_take_iff]; omega] at hk2
  replace hk2 : SlR w0 (slV ka kc 0 (min key.length 300)) 1 k2.length (k2.map byteV) := by rw [show k2.length = min key.length 300 from by rw [hk2d, List.length_take, Nat.min_comm]]; exact hk2
  obtain ⟨ka2, kc2, hk2e⟩ := hk2.form
  rw [hk2e] at hk2
  obtain ⟨m2, hm2d⟩ : ∃ z, z = m.take 600 := ⟨_, rfl⟩
  have hm2l : m2.length ≤ 600 := by rw [hm2d, List.length_take]; omega
  have hm2 := slV_is hm 0 (min m.length 600) (Nat.zero_le _) (Nat.min_le_left _ _)
  rw [Nat.sub_zero, List.drop_zero, show m.take (min m.length 600) = m2 from by rw [hm2d, List.take_eq_take_iff]; omega] at hm2
  replace hm2 : SlR w0 (slV ma mc 0 (min m.length 600)) 1 m2.length (m2.map byteV) := by rw [show m2.length = min m.length 600 from by rw [hm2d, List.length_take, Nat.min_comm]]; exact hm2
  obtain ⟨ma2, mc2, hm2e⟩ := hm2.form
  rw [hm2e] at hm2
  refine Fn.of 87 [.tmp 6] Go.Proofs.Try.func6 rfl rfl rfl rfl ?_
  refine T.seq ?_
  refine T.region ?_
  refine TL.cons rfl (V1.t (V1.assign' (by (conv => lhs; whnf) <;> rfl)) ?_)
  refine TL.nil ?_
  refine T.seq ?_
  refine T.seq ?_
  refine T.region ?_
  refine TL.cons rfl (T1.call0 has_24 rfl (fun w hs => known_any w) (fun v hv => ?_))
  subst hv
  refine TL.cons rfl (V1.t (V1.not rfl rfl) ?_)
  refine TL.nil ?_
  refine T.cond_f rfl ?_
  refine T.skip ?_
  refine T.seq ?_
  refine T.drawDet' mixed (by decide +kernel) ?_
  refine Det.cons 0 (ins := [(0, _)]) (.old (by (conv => lhs; whnf) <;> rfl) (by decide +kernel) .nil) (fun e_ => .inl ⟨rfl, V1.t (V1.move' (by (conv => lhs; whnf) <;> rfl)) ⟨rfl, rfl⟩⟩) ?_
  refine Det.cons 1 (ins := [(0, _)]) (.old (by (conv => lhs; whnf) <;> rfl) (by decide +kernel) .nil) (fun e_ => .inl ⟨rfl, V1.t (V1.move' (by (conv => lhs; whnf) <;> rfl)) ⟨rfl, rfl⟩⟩) ?_
  refine Det.cons 2 (ins := [(12, _)]) (.new 1 0 (by decide +kernel) rfl rfl .nil) (fun e_ => .inl ⟨rfl, V1.t (V1.lenSl ty_22 rfl) ⟨rfl, rfl⟩⟩) ?_
  refine Det.cons 3 (ins := [(13, _)]) (.new 2 0 (by decide +kernel) rfl rfl .nil) (fun e_ => .inl ⟨rfl, V1.t (V1.min2 (c := ((min key.length 300 : Nat) : Int)) rfl rfl (by omega)) ⟨rfl, rfl⟩⟩) ?_
  refine Det.cons 4 (ins := [(11, _), (14, _)]) (.new 0 3 (by decide +kernel) rfl rfl (.new 3 0 (by decide +kernel) rfl rfl .nil)) (fun e_ => .inl ⟨rfl, V1.t (show V1 _ _ _ _ (.slice ka2 k2.length kc2) from by rw [← hk2e]; exact V1.sliceR1 ty_22 sz_5 hk rfl (0) (min key.length 300) rfl rfl (by omega) (by omega)) ⟨rfl, rfl⟩⟩) ?_
  refine Det.cons 5 (ins := [(1, _)]) (.old (by (conv => lhs; whnf) <;> rfl) (by decide +kernel) .nil) (fun e_ => .inl ⟨rfl, V1.t (V1.move' (by (conv => lhs; whnf) <;> rfl)) ⟨rfl, rfl⟩⟩) ?_
  refine Det.cons 6 (ins := [(1, _)]) (.old (by (conv => lhs; whnf) <;> rfl) (by decide +kernel) .nil) (fun e_ => .inl ⟨rfl, V1.t (V1.move' (by (conv => lhs; whnf) <;> rfl)) ⟨rfl, rfl⟩⟩) ?_
  refine Det.cons 7 (ins := [(17, _)]) (.new 6 0 (by decide +kernel) rfl rfl .nil) (fun e_ => .inl ⟨rfl, V1.t (V1.lenSl ty_22 rfl) ⟨rfl, rfl⟩⟩) ?_
  refine Det.cons 8 (ins := [(18, _)]) (.new 7 0 (by decide +kernel) rfl rfl .nil) (fun e_ => .inl ⟨rfl, V1.t (V1.min2 (c := ((min m.length 600 : Nat) : Int)) rfl rfl (by omega)) ⟨rfl, rfl⟩⟩) ?_
  refine Det.cons 9 (ins := [(16, _), (19, _)]) (.new 5 3 (by decide +kernel) rfl rfl (.new 8 0 (by decide +kernel) rfl rfl .nil)) (fun e_ => .inl ⟨rfl, V1.t (show V1 _ _ _ _ (.slice ma2 m2.length mc2) from by rw [← hm2e]; exact V1.sliceR1 ty_22 sz_5 hm rfl (0) (min m.length 600) rfl rfl (by omega) (by omega)) ⟨rfl, rfl⟩⟩) ?_
  refine Det.cons 10 (ins := [(15, _)]) (.new 4 5 (by decide +kernel) rfl rfl .nil) (fun e_ => .inl ⟨rfl, V1.t (V1.assign' (by (conv => lhs; whnf) <;> rfl)) ⟨rfl, rfl⟩⟩) ?_
  refine Det.cons 11 (ins := [(20, _)]) (.new 9 1 (by decide +kernel) rfl rfl .nil) (fun e_ => .inl ⟨rfl, V1.t (V1.assign' (by (conv => lhs; whnf) <;> rfl)) ⟨rfl, rfl⟩⟩) ?_
  refine Det.nil 12 (l := [(0, _), (1, _), (2, _)]) (.new 10 1 (by decide +kernel) rfl rfl (.new 11 0 (by decide +kernel) rfl rfl (.old (by (conv => lhs; whnf) <;> rfl) (by decide +kernel) .nil))) (fun e_ => ?_)
  refine T.seq ?_
  refine T.seq ?_
  refine T.region ?_
  refine TL.cons rfl (V1.t (V1.move' (by (conv => lhs; whnf) <;> rfl)) ?_)
  refine TL.cons rfl (T1.ltI_split rfl rfl (fun h4_1 => ?_) (fun h4_1 => ?_))
  ·
    obtain ⟨n, hn0⟩ : ∃ n : Nat, n = 0 := ⟨0, rfl⟩
    have hnb : n ≤ m2.length := by omega
    refine TL.cons rfl (V1.t (V1.move' (by (conv => lhs; whnf) <;> rfl)) ?_)
    refine TL.no rfl ?_
    refine TL.no rfl ?_
    refine TL.no rfl ?_
    refine TL.no rfl ?_
    refine TL.cons rfl (V1.t (V1.pick rfl (by (conv => lhs; whnf) <;> rfl)) ?_)
    refine TL.nil ?_
    refine T.cond_t rfl ?_
    refine T.region ?_
    refine TL.cons rfl (V1.t (V1.assign' (v := .int .i64 (n : Int)) (by rw [hn0]; exact rfl)) ?_)
    refine TL.nil ?_
    refine T.seq ?_
    refine T.region ?_
    refine TL.cons rfl (V1.t (V1.move' (by (conv => lhs; whnf) <;> rfl)) ?_)
    refine TL.cons rfl (V1.t (V1.bytesToStr (l := k2) ty_22 ty_5 ty_9 rfl (hk2.src rfl) (by intro b h; cases h)) ?_)
    refine TL.cons rfl (V1.t (V1.move' (by (conv => lhs; whnf) <;> rfl)) ?_)
    refine TL.cons rfl (V1.t (V1.bytesToStr (l := m2) ty_22 ty_5 ty_9 rfl (hm2.src rfl) (by intro b h; cases h)) ?_)
    refine TL.cons rfl (T1.call0 has_26 rfl (fun w hs => refmac_any k2 m2 w (by omega) (by omega)) (fun v hv => ?_))
    subst hv
    refine TL.cons rfl (T1.allocN 32 zr_26 rfl (fun b7 => ?_))
    refine TL.cons rfl (T1.storeN rfl rfl sz_26 (one_bytes _) (by repeat (first | exact Sub.one | apply Sub.there | apply Sub.far)) (by rw [List.length_map, hmac_len]; rfl) (by rw [List.length_map, hmac_len]) ?_)
    have hfi := slV_is hm2 0 n (Nat.zero_le _) hnb
    have hba := slV_is hm2 n m2.length hnb (Nat.le_refl _)
    rw [Nat.sub_zero, List.drop_zero] at hfi
    rw [List.take_of_length_le (show (m2.drop n).length ≤ m2.length - n by rw [List.length_drop]; exact Nat.le_refl _)] at hba
    replace hfi : SlR w0 (slV ma2 mc2 0 n) 1 (m2.take n).length ((m2.take n).map byteV) := by rw [List.length_take, Nat.min_eq_left hnb]; exact hfi
    replace hba : SlR w0 (slV ma2 mc2 n m2.length) 1 (m2.drop n).length ((m2.drop n).map byteV) := by rw [List.length_drop]; exact hba
    obtain ⟨fa, fc, hfe⟩ := hfi.form
    rw [hfe] at hfi
    obtain ⟨ba, bc, hbe⟩ := hba.form
    rw [hbe] at hba
    have hsplit : m2.take n ++ m2.drop n = m2 := List.take_append_drop n m2
    have hfl1 : (m2.take n).length ≤ 600 := by rw [List.length_take]; omega
    have hfl2 : (m2.drop n).length ≤ 600 := by rw [List.length_drop]; omega
    refine TL.nil ?_
    refine T.seq ?_
    refine T.live (l := [(0, _), (1, _), (2, _), (7, _)]) (.cons (by (conv => lhs; whnf) <;> rfl) (.cons (by (conv => lhs; whnf) <;> rfl) (.cons (by (conv => lhs; whnf) <;> rfl) (.cons (by (conv => lhs; whnf) <;> rfl) .nil)))) (fun e_ => ?_)
    refine T.region ?_
    refine TL.cons rfl (V1.t (V1.move' (by (conv => lhs; whnf) <;> rfl)) ?_)
    refine TL.cons rfl (T1.callX (X := []) has_27 rfl (macNew_any _ _ k2 [] (PartR.old hk2) (by omega)) Take.nil (fun v2 Y hY => ?_))
    obtain ⟨bm, bh, X', rfl, rfl, hx⟩ := hY
    simp only [List.cons_append, List.append_nil]
    refine TL.cons rfl (V1.t (V1.assign' (by (conv => lhs; whnf) <;> rfl)) ?_)
    refine TL.nil ?_
    refine T.seq ?_
    refine T.seq ?_
    refine T.region ?_
    refine TL.cons rfl (V1.t (V1.move' (by (conv => lhs; whnf) <;> rfl)) ?_)
    refine TL.cons rfl (V1.t (V1.eqNil ty_37 rfl rfl) ?_)
    refine TL.nil ?_
    refine T.cond_f rfl ?_
    refine T.skip ?_
    refine T.seq ?_
    refine T.drawK (fun L_ => Find L_ ⟨bm, 0, .pointer (some ⟨bh, 0, none⟩) :: (opad k2).map byteV, 65⟩) mixed (by repeat (first | exact Find.here | assumption | apply Find.there | apply Find.far)) ?_
    refine TK.take 0 rfl (by decide +kernel) (by decide +kernel) (by decide +kernel) rfl (fun _ _ _ h => h) (fun L_ k1_ => V1.move' (by (conv => lhs; whnf) <;> rfl)) ?_
    refine TK.take 1 rfl (by decide +kernel) (by decide +kernel) (by decide +kernel) rfl (fun _ _ _ h => h) (fun L_ k1_ => V1.nilCheck rfl) ?_
    refine TK.take 2 rfl (by decide +kernel) (by decide +kernel) (by decide +kernel) rfl (fun _ _ _ h => h) (fun L_ k1_ => V1.fieldAddr fl_42_0 rfl) ?_
    refine TK.take 3 rfl (by decide +kernel) (by decide +kernel) (by decide +kernel) rfl (fun _ _ _ h => h) (fun L_ k1_ => V1.load1 one_40 rfl (.own (cells := .pointer (some ⟨bh, 0, none⟩) :: (opad k2).map byteV) (by repeat (first | exact Find.here | assumption | apply Find.there | apply Find.far)) (by rfl))) ?_
    refine TK.take 4 rfl (by decide +kernel) (by decide +kernel) (by decide +kernel) rfl (fun _ _ _ h => h) (fun L_ k1_ => V1.move' (by (conv => lhs; whnf) <;> rfl)) ?_
    refine TK.take 5 rfl (by decide +kernel) (by decide +kernel) (by decide +kernel) rfl (fun _ _ _ h => h) (fun L_ k1_ => V1.move' (by (conv => lhs; whnf) <;> rfl)) ?_
    refine TK.take 6 rfl (by decide +kernel) (by decide +kernel) (by decide +kernel) rfl (fun _ _ _ h => h) (fun L_ k1_ => show V1 _ _ _ _ (.slice fa (m2.take n).length fc) from by rw [← hfe]; exact V1.sliceR1 ty_22 sz_5 hm2 rfl (0) (n) rfl rfl (by omega) (by omega)) ?_
    refine TK.one 7 (by decide +kernel) rfl rfl (T1.buildSl1 (os := [.tmp 44]) (vs := [.slice fa (m2.take n).length fc]) ty_44 sz_22 zr_22 (by decide) rfl (.cons (by (conv => lhs; whnf) <;> rfl) .nil) rfl (ones rfl) (fun b45 => ?_))
    refine ⟨(by repeat (first | exact Find.here | assumption | apply Find.there | apply Find.far)), ?_⟩
    refine TK.one 8 (by decide +kernel) rfl rfl (T1.callX (X := X' ++ ([⟨b45, 0, [.slice fa (m2.take n).length fc], 1⟩] : List Blk)) has_28 rfl (Write256_any _ bh _ _ [m2.take n] X' ([⟨b45, 0, [.slice fa (m2.take n).length fc], 1⟩] : List Blk) hx (PartsR.ones (svs := [.slice fa (m2.take n).length fc]) (size := 1) (by simp) rfl (one_part (PartR.old hfi))) (one_len (by omega)) (show 1 < 9223372036854775807 by decide)) (by repeat (first | exact Take.nil | apply Take.one (by repeat (first | exact Pick.here | apply Pick.there | apply Pick.far)) | apply Take.seg (by repeat (first | exact PickS.last | exact PickS.one | exact PickS.here | exact PickS.nil | apply PickS.there | apply PickS.far)) | exact Take.last (by repeat (first | exact PickS.last | exact PickS.one | exact PickS.here | exact PickS.nil | apply PickS.there | apply PickS.far)))) (fun v3 Y hY => ?_))
    obtain ⟨X2, hx2, rfl⟩ := hY
    simp only [List.append_assoc, List.cons_append, List.nil_append]
    refine ⟨(by repeat (first | exact Find.here | assumption | apply Find.there | apply Find.far)), ?_⟩
    refine TD.done (by decide +kernel) ?_
    refine T.seq ?_
    refine T.drawK (fun L_ => Find L_ ⟨bm, 0, .pointer (some ⟨bh, 0, none⟩) :: (opad k2).map byteV, 65⟩) mixed (by repeat (first | exact Find.here | assumption | apply Find.there | apply Find.far)) ?_
    refine TK.take 0 rfl (by decide +kernel) (by decide +kernel) (by decide +kernel) rfl (fun _ _ _ h => h) (fun L_ k1_ => V1.move' (by (conv => lhs; whnf) <;> rfl)) ?_
    refine TK.take 1 rfl (by decide +kernel) (by decide +kernel) (by decide +kernel) rfl (fun _ _ _ h => h) (fun L_ k1_ => V1.nilCheck rfl) ?_
    refine TK.take 2 rfl (by decide +kernel) (by decide +kernel) (by decide +kernel) rfl (fun _ _ _ h => h) (fun L_ k1_ => V1.fieldAddr fl_42_0 rfl) ?_
    refine TK.take 3 rfl (by decide +kernel) (by decide +kernel) (by decide +kernel) rfl (fun _ _ _ h => h) (fun L_ k1_ => V1.load1 one_40 rfl (.own (cells := .pointer (some ⟨bh, 0, none⟩) :: (opad k2).map byteV) (by repeat (first | exact Find.here | assumption | apply Find.there | apply Find.far)) (by rfl))) ?_
    refine TK.take 4 rfl (by decide +kernel) (by decide +kernel) (by decide +kernel) rfl (fun _ _ _ h => h) (fun L_ k1_ => V1.move' (by (conv => lhs; whnf) <;> rfl)) ?_
    refine TK.take 5 rfl (by decide +kernel) (by decide +kernel) (by decide +kernel) rfl (fun _ _ _ h => h) (fun L_ k1_ => V1.move' (by (conv => lhs; whnf) <;> rfl)) ?_
    refine TK.take 6 rfl (by decide +kernel) (by decide +kernel) (by decide +kernel) rfl (fun _ _ _ h => h) (fun L_ k1_ => show V1 _ _ _ _ (.slice ba (m2.drop n).length bc) from by rw [← hbe]; exact V1.sliceR1 ty_22 sz_5 hm2 rfl (n) (m2.length) rfl rfl (by omega) (by omega)) ?_
    refine TK.one 7 (by decide +kernel) rfl rfl (T1.buildSl1 (os := [.tmp 53, .const (.slice none 0 0)]) (vs := [.slice ba (m2.drop n).length bc, .slice none 0 0]) ty_44 sz_22 zr_22 (by decide) rfl (.cons (by (conv => lhs; whnf) <;> rfl) (.cons (by (conv => lhs; whnf) <;> rfl) .nil)) rfl (ones rfl) (fun b54 => ?_))
    refine ⟨(by repeat (first | exact Find.here | assumption | apply Find.there | apply Find.far)), ?_⟩
    refine TK.one 8 (by decide +kernel) rfl rfl (T1.callX (X := X2 ++ ([⟨b54, 0, [.slice ba (m2.drop n).length bc, .slice none 0 0], 2⟩] : List Blk)) has_28 rfl (Write256_any _ bh _ _ [m2.drop n, []] X2 ([⟨b54, 0, [.slice ba (m2.drop n).length bc, .slice none 0 0], 2⟩] : List Blk) hx2 (PartsR.ones (svs := [.slice ba (m2.drop n).length bc, .slice none 0 0]) (size := 2) (by simp) rfl (two_parts (PartR.old hba) PartR.nil)) (two_len (by omega) (by simp)) (show 2 < 9223372036854775807 by decide)) (by repeat (first | exact Take.nil | apply Take.one (by repeat (first | exact Pick.here | apply Pick.there | apply Pick.far)) | apply Take.seg (by repeat (first | exact PickS.last | exact PickS.one | exact PickS.here | exact PickS.nil | apply PickS.there | apply PickS.far)) | exact Take.last (by repeat (first | exact PickS.last | exact PickS.one | exact PickS.here | exact PickS.nil | apply PickS.there | apply PickS.far)))) (fun v3 Y hY => ?_))
    obtain ⟨X3, hx3, rfl⟩ := hY
    rw [show (ipad k2 ++ ([m2.take n] : List (List UInt8)).flatten ++ ([m2.drop n, []] : List (List UInt8)).flatten) = ipad k2 ++ m2 from by simp [List.append_assoc, hsplit]] at hx3
    simp only [List.append_assoc, List.cons_append, List.nil_append]
    refine ⟨(by repeat (first | exact Find.here | assumption | apply Find.there | apply Find.far)), ?_⟩
    refine TD.done (by decide +kernel) ?_
    refine T.seq ?_
    refine T.live (l := [(0, _), (1, _), (2, _), (7, _), (8, _)]) (.cons (by (conv => lhs; whnf) <;> rfl) (.cons (by (conv => lhs; whnf) <;> rfl) (.cons (by (conv => lhs; whnf) <;> rfl) (.cons (by (conv => lhs; whnf) <;> rfl) (.cons (by (conv => lhs; whnf) <;> rfl) .nil))))) (fun e_ => ?_)
    refine T.drawK (fun L_ => Find L_ ⟨b7, 0, (hmac k2 m2).map byteV, 32⟩) mixed (by repeat (first | exact Find.here | assumption | apply Find.there | apply Find.far)) ?_
    refine TK.take 0 rfl (by decide +kernel) (by decide +kernel) (by decide +kernel) rfl (fun _ _ _ h => h) (fun L_ k1_ => V1.move' (by (conv => lhs; whnf) <;> rfl)) ?_
    refine TK.take 1 rfl (by decide +kernel) (by decide +kernel) (by decide +kernel) rfl (fun _ _ _ h => h) (fun L_ k1_ => V1.move' (by (conv => lhs; whnf) <;> rfl)) ?_
    refine TK.take 4 rfl (by decide +kernel) (by decide +kernel) (by decide +kernel) rfl (fun _ _ _ h => h) (fun L_ k1_ => V1.loadN one_26 sz_26 rfl (RdN.whole (cells := (hmac k2 m2).map byteV) (by repeat (first | exact Find.here | assumption | apply Find.there | apply Find.far))) (by rw [List.length_map, hmac_len])) ?_
    refine TK.one 2 (by decide +kernel) rfl rfl (T1.buildSl1 (os := [.tmp 57]) (vs := [.slice ma2 m2.length mc2]) ty_44 sz_22 zr_22 (by decide) rfl (.cons (by (conv => lhs; whnf) <;> rfl) .nil) rfl (ones rfl) (fun b58 => ?_))
    refine ⟨(by repeat (first | exact Find.here | assumption | apply Find.there | apply Find.far)), ?_⟩
    refine TK.one 3 (by decide +kernel) rfl rfl (T1.callX (X := ([⟨b58, 0, [.slice ma2 m2.length mc2], 1⟩] : List Blk)) has_25 rfl (mac_any _ _ _ k2 [m2] ([⟨b58, 0, [.slice ma2 m2.length mc2], 1⟩] : List Blk) (PartR.old hk2) (by omega) (PartsR.ones (svs := [.slice ma2 m2.length mc2]) (size := 1) (by simp) rfl (one_part (PartR.old hm2))) (one_len (by omega)) (show 1 < 9223372036854775807 by decide) (by simp; omega)) (by repeat (first | exact Take.nil | apply Take.one (by repeat (first | exact Pick.here | apply Pick.there | apply Pick.far)) | apply Take.seg (by repeat (first | exact PickS.last | exact PickS.one | exact PickS.here | exact PickS.nil | apply PickS.there | apply PickS.far)) | exact Take.last (by repeat (first | exact PickS.last | exact PickS.one | exact PickS.here | exact PickS.nil | apply PickS.there | apply PickS.far)))) (fun v Y hY => ?_))
    obtain ⟨rfl, rfl⟩ := hY
    dsimp only [List.cons_append, List.nil_append]
    rw [show ([m2] : List (List UInt8)).flatten = m2 from by simp]
    refine ⟨(by repeat (first | exact Find.here | assumption | apply Find.there | apply Find.far)), ?_⟩
    refine TK.take 5 rfl (by decide +kernel) (by decide +kernel) (by decide +kernel) rfl (fun _ _ _ h => h) (fun L_ k1_ => V1.eqBs (r := true) ty_26 ty_5 sz_5 eg_26 rfl rfl (hmac_len _ _) (hmac_len _ _) (by simp)) ?_
    refine TK.take 6 rfl (by decide +kernel) (by decide +kernel) (by decide +kernel) rfl (fun _ _ _ h => h) (fun L_ k1_ => V1.move' (by (conv => lhs; whnf) <;> rfl)) ?_
    refine TK.take 7 rfl (by decide +kernel) (by decide +kernel) (by decide +kernel) rfl (fun _ _ _ h => h) (fun L_ k1_ => V1.move' (by (conv => lhs; whnf) <;> rfl)) ?_
    refine TK.take 9 rfl (by decide +kernel) (by decide +kernel) (by decide +kernel) rfl (fun _ _ _ h => h) (fun L_ k1_ => V1.loadN one_26 sz_26 rfl (RdN.whole (cells := (hmac k2 m2).map byteV) (by repeat (first | exact Find.here | assumption | apply Find.there | apply Find.far))) (by rw [List.length_map, hmac_len])) ?_
    refine TK.one 8 (by decide +kernel) rfl rfl (T1.callX (X := ⟨bm, 0, .pointer (some ⟨bh, 0, none⟩) :: (opad k2).map byteV, 65⟩ :: X3) has_29 rfl (MSum_any _ bm k2 m2 (⟨bm, 0, .pointer (some ⟨bh, 0, none⟩) :: (opad k2).map byteV, 65⟩ :: X3) ⟨bh, X3, rfl, hx3⟩ (by omega)) (by repeat (first | exact Take.nil | apply Take.one (by repeat (first | exact Pick.here | apply Pick.there | apply Pick.far)) | apply Take.seg (by repeat (first | exact PickS.last | exact PickS.one | exact PickS.here | exact PickS.nil | apply PickS.there | apply PickS.far)) | exact Take.last (by repeat (first | exact PickS.last | exact PickS.one | exact PickS.here | exact PickS.nil | apply PickS.there | apply PickS.far)))) (fun v3 Y hY => ?_))
    obtain ⟨rfl, hzz⟩ := hY
    rw [hzz]
    simp only [List.cons_append]
    refine ⟨(by repeat (first | exact Find.here | assumption | apply Find.there | apply Find.far)), ?_⟩
    refine TK.take 10 rfl (by decide +kernel) (by decide +kernel) (by decide +kernel) rfl (fun _ _ _ h => h) (fun L_ k1_ => V1.eqBs (r := true) ty_26 ty_5 sz_5 eg_26 rfl rfl (hmac_len _ _) (hmac_len _ _) (by simp)) ?_
    refine TK.take 11 rfl (by decide +kernel) (by decide +kernel) (by decide +kernel) rfl (fun _ _ _ h => h) (fun L_ k1_ => V1.pick rfl (by (conv => lhs; whnf) <;> rfl)) ?_
    refine TK.take 12 rfl (by decide +kernel) (by decide +kernel) (by decide +kernel) rfl (fun _ _ _ h => h) (fun L_ k1_ => V1.move' (by (conv => lhs; whnf) <;> rfl)) ?_
    refine TK.take 13 rfl (by decide +kernel) (by decide +kernel) (by decide +kernel) rfl (fun _ _ _ h => h) (fun L_ k1_ => V1.move' (by (conv => lhs; whnf) <;> rfl)) ?_
    refine TK.take 15 rfl (by decide +kernel) (by decide +kernel) (by decide +kernel) rfl (fun _ _ _ h => h) (fun L_ k1_ => V1.loadN one_26 sz_26 rfl (RdN.whole (cells := (hmac k2 m2).map byteV) (by repeat (first | exact Find.here | assumption | apply Find.there | apply Find.far))) (by rw [List.length_map, hmac_len])) ?_
    refine TK.one 14 (by decide +kernel) rfl rfl (T1.callX (X := ⟨bm, 0, .pointer (some ⟨bh, 0, none⟩) :: (opad k2).map byteV, 65⟩ :: X3) has_29 rfl (MSum_any _ bm k2 m2 (⟨bm, 0, .pointer (some ⟨bh, 0, none⟩) :: (opad k2).map byteV, 65⟩ :: X3) ⟨bh, X3, rfl, hx3⟩ (by omega)) (by repeat (first | exact Take.nil | apply Take.one (by repeat (first | exact Pick.here | apply Pick.there | apply Pick.far)) | apply Take.seg (by repeat (first | exact PickS.last | exact PickS.one | exact PickS.here | exact PickS.nil | apply PickS.there | apply PickS.far)) | exact Take.last (by repeat (first | exact PickS.last | exact PickS.one | exact PickS.here | exact PickS.nil | apply PickS.there | apply PickS.far)))) (fun v3 Y hY => ?_))
    obtain ⟨rfl, hzz⟩ := hY
    rw [hzz]
    simp only [List.cons_append]
    refine ⟨(by repeat (first | exact Find.here | assumption | apply Find.there | apply Find.far)), ?_⟩
    refine TK.take 16 rfl (by decide +kernel) (by decide +kernel) (by decide +kernel) rfl (fun _ _ _ h => h) (fun L_ k1_ => V1.eqBs (r := true) ty_26 ty_5 sz_5 eg_26 rfl rfl (hmac_len _ _) (hmac_len _ _) (by simp)) ?_
    refine TK.take 17 rfl (by decide +kernel) (by decide +kernel) (by decide +kernel) rfl (fun _ _ _ h => h) (fun L_ k1_ => V1.pick rfl (by (conv => lhs; whnf) <;> rfl)) ?_
    refine TK.take 18 rfl (by decide +kernel) (by decide +kernel) (by decide +kernel) rfl (fun _ _ _ h => h) (fun L_ k1_ => V1.move' (by (conv => lhs; whnf) <;> rfl)) ?_
    refine TK.take 19 rfl (by decide +kernel) (by decide +kernel) (by decide +kernel) rfl (fun _ _ _ h => h) (fun L_ k1_ => V1.move' (by (conv => lhs; whnf) <;> rfl)) ?_
    refine TK.take 20 rfl (by decide +kernel) (by decide +kernel) (by decide +kernel) rfl (fun _ _ _ h => h) (fun L_ k1_ => V1.move' (by (conv => lhs; whnf) <;> rfl)) ?_
    refine TK.take 21 rfl (by decide +kernel) (by decide +kernel) (by decide +kernel) rfl (fun _ _ _ h => h) (fun L_ k1_ => V1.move' (by (conv => lhs; whnf) <;> rfl)) ?_
    refine TK.take 22 rfl (by decide +kernel) (by decide +kernel) (by decide +kernel) rfl (fun _ _ _ h => h) (fun L_ k1_ => show V1 _ _ _ _ (.slice fa (m2.take n).length fc) from by rw [← hfe]; exact V1.sliceR1 ty_22 sz_5 hm2 rfl (0) (n) rfl rfl (by omega) (by omega)) ?_
    refine TK.take 23 rfl (by decide +kernel) (by decide +kernel) (by decide +kernel) rfl (fun _ _ _ h => h) (fun L_ k1_ => V1.move' (by (conv => lhs; whnf) <;> rfl)) ?_
    refine TK.take 24 rfl (by decide +kernel) (by decide +kernel) (by decide +kernel) rfl (fun _ _ _ h => h) (fun L_ k1_ => V1.move' (by (conv => lhs; whnf) <;> rfl)) ?_
    refine TK.take 25 rfl (by decide +kernel) (by decide +kernel) (by decide +kernel) rfl (fun _ _ _ h => h) (fun L_ k1_ => show V1 _ _ _ _ (.slice ba (m2.drop n).length bc) from by rw [← hbe]; exact V1.sliceR1 ty_22 sz_5 hm2 rfl (n) (m2.length) rfl rfl (by omega) (by omega)) ?_
    refine TK.take 28 rfl (by decide +kernel) (by decide +kernel) (by decide +kernel) rfl (fun _ _ _ h => h) (fun L_ k1_ => V1.loadN one_26 sz_26 rfl (RdN.whole (cells := (hmac k2 m2).map byteV) (by repeat (first | exact Find.here | assumption | apply Find.there | apply Find.far))) (by rw [List.length_map, hmac_len])) ?_
    refine TK.one 26 (by decide +kernel) rfl rfl (T1.buildSl1 (os := [.tmp 78, .tmp 81]) (vs := [.slice fa (m2.take n).length fc, .slice ba (m2.drop n).length bc]) ty_44 sz_22 zr_22 (by decide) rfl (.cons (by (conv => lhs; whnf) <;> rfl) (.cons (by (conv => lhs; whnf) <;> rfl) .nil)) rfl (ones rfl) (fun b82 => ?_))
    refine ⟨(by repeat (first | exact Find.here | assumption | apply Find.there | apply Find.far)), ?_⟩
    refine TK.one 27 (by decide +kernel) rfl rfl (T1.callX (X := ([⟨b82, 0, [.slice fa (m2.take n).length fc, .slice ba (m2.drop n).length bc], 2⟩] : List Blk)) has_30 rfl (Extract_any _ _ _ k2 [m2.take n, m2.drop n] ([⟨b82, 0, [.slice fa (m2.take n).length fc, .slice ba (m2.drop n).length bc], 2⟩] : List Blk) (PartR.old hk2) (by omega) (PartsR.ones (svs := [.slice fa (m2.take n).length fc, .slice ba (m2.drop n).length bc]) (size := 2) (by simp) rfl (two_parts (PartR.old hfi) (PartR.old hba))) (two_len (by omega) (by omega)) (show 2 < 9223372036854775807 by decide) (by simp [hsplit]; omega)) (by repeat (first | exact Take.nil | apply Take.one (by repeat (first | exact Pick.here | apply Pick.there | apply Pick.far)) | apply Take.seg (by repeat (first | exact PickS.last | exact PickS.one | exact PickS.here | exact PickS.nil | apply PickS.there | apply PickS.far)) | exact Take.last (by repeat (first | exact PickS.last | exact PickS.one | exact PickS.here | exact PickS.nil | apply PickS.there | apply PickS.far)))) (fun v Y hY => ?_))
    obtain ⟨rfl, rfl⟩ := hY
    dsimp only [List.cons_append, List.nil_append]
    rw [show ([m2.take n, m2.drop n] : List (List UInt8)).flatten = m2 from by simp [hsplit]]
    refine ⟨(by repeat (first | exact Find.here | assumption | apply Find.there | apply Find.far)), ?_⟩
    refine TK.take 29 rfl (by decide +kernel) (by decide +kernel) (by decide +kernel) rfl (fun _ _ _ h => h) (fun L_ k1_ => V1.eqBs (r := true) ty_26 ty_5 sz_5 eg_26 rfl rfl (hmac_len _ _) (hmac_len _ _) (by simp)) ?_
    refine TK.take 30 rfl (by decide +kernel) (by decide +kernel) (by decide +kernel) rfl (fun _ _ _ h => h) (fun L_ k1_ => V1.pick rfl (by (conv => lhs; whnf) <;> rfl)) ?_
    refine TK.take 31 rfl (by decide +kernel) (by decide +kernel) (by decide +kernel) rfl (fun _ _ _ h => h) (fun L_ k1_ => V1.assign' (by (conv => lhs; whnf) <;> rfl)) ?_
    refine TD.done (by decide +kernel) ?_
    refine T.ret ?_
    exact ⟨_, [], _, .cons (.tmp (by (conv => lhs; whnf) <;> rfl)) .nil, Take.nil, rfl⟩
  ·
    refine TL.cons rfl (V1.t (V1.move' (by (conv => lhs; whnf) <;> rfl)) ?_)
    refine TL.cons rfl (V1.t (V1.move' (by (conv => lhs; whnf) <;> rfl)) ?_)
    refine TL.cons rfl (V1.t (V1.move' (by (conv => lhs; whnf) <;> rfl)) ?_)
    refine TL.cons rfl (V1.t (V1.lenSl ty_22 rfl) ?_)
    refine TL.cons rfl (T1.gtI_split rfl rfl (fun h4_6 => ?_) (fun h4_6 => ?_))
    ·
      obtain ⟨n, hn0⟩ : ∃ n : Nat, n = 0 := ⟨0, rfl⟩
      have hnb : n ≤ m2.length := by omega
      refine TL.cons rfl (V1.t (V1.pick rfl (by (conv => lhs; whnf) <;> rfl)) ?_)
      refine TL.nil ?_
      refine T.cond_t rfl ?_
      refine T.region ?_
      refine TL.cons rfl (V1.t (V1.assign' (v := .int .i64 (n : Int)) (by rw [hn0]; exact rfl)) ?_)
      refine TL.nil ?_
      refine T.seq ?_
      refine T.region ?_
      refine TL.cons rfl (V1.t (V1.move' (by (conv => lhs; whnf) <;> rfl)) ?_)
      refine TL.cons rfl (V1.t (V1.bytesToStr (l := k2) ty_22 ty_5 ty_9 rfl (hk2.src rfl) (by intro b h; cases h)) ?_)
      refine TL.cons rfl (V1.t (V1.move' (by (conv => lhs; whnf) <;> rfl)) ?_)
      refine TL.cons rfl (V1.t (V1.bytesToStr (l := m2) ty_22 ty_5 ty_9 rfl (hm2.src rfl) (by intro b h; cases h)) ?_)
      refine TL.cons rfl (T1.call0 has_26 rfl (fun w hs => refmac_any k2 m2 w (by omega) (by omega)) (fun v hv => ?_))
      subst hv
      refine TL.cons rfl (T1.allocN 32 zr_26 rfl (fun b7 => ?_))
      refine TL.cons rfl (T1.storeN rfl rfl sz_26 (one_bytes _) (by repeat (first | exact Sub.one | apply Sub.there | apply Sub.far)) (by rw [List.length_map, hmac_len]; rfl) (by rw [List.length_map, hmac_len]) ?_)
      have hfi := slV_is hm2 0 n (Nat.zero_le _) hnb
      have hba := slV_is hm2 n m2.length hnb (Nat.le_refl _)
      rw [Nat.sub_zero, List.drop_zero] at hfi
      rw [List.take_of_length_le (show (m2.drop n).length ≤ m2.length - n by rw [List.length_drop]; exact Nat.le_refl _)] at hba
      replace hfi : SlR w0 (slV ma2 mc2 0 n) 1 (m2.take n).length ((m2.take n).map byteV) := by rw [List.length_take, Nat.min_eq_left hnb]; exact hfi
      replace hba : SlR w0 (slV ma2 mc2 n m2.length) 1 (m2.drop n).length ((m2.drop n).map byteV) := by rw [List.length_drop]; exact hba
      obtain ⟨fa, fc, hfe⟩ := hfi.form
      rw [hfe] at hfi
      obtain ⟨ba, bc, hbe⟩ := hba.form
      rw [hbe] at hba
      have hsplit : m2.take n ++ m2.drop n = m2 := List.take_append_drop n m2
      have hfl1 : (m2.take n).length ≤ 600 := by rw [List.length_take]; omega
      have hfl2 : (m2.drop n).length ≤ 600 := by rw [List.length_drop]; omega
      refine TL.nil ?_
      refine T.seq ?_
      refine T.live (l := [(0, _), (1, _), (2, _), (7, _)]) (.cons (by (conv => lhs; whnf) <;> rfl) (.cons (by (conv => lhs; whnf) <;> rfl) (.cons (by (conv => lhs; whnf) <;> rfl) (.cons (by (conv => lhs; whnf) <;> rfl) .nil)))) (fun e_ => ?_)
      refine T.region ?_
      refine TL.cons rfl (V1.t (V1.move' (by (conv => lhs; whnf) <;> rfl)) ?_)
      refine TL.cons rfl (T1.callX (X := []) has_27 rfl (macNew_any _ _ k2 [] (PartR.old hk2) (by omega)) Take.nil (fun v2 Y hY => ?_))
      obtain ⟨bm, bh, X', rfl, rfl, hx⟩ := hY
      simp only [List.cons_append, List.append_nil]
      refine TL.cons rfl (V1.t (V1.assign' (by (conv => lhs; whnf) <;> rfl)) ?_)
      refine TL.nil ?_
      refine T.seq ?_
      refine T.seq ?_
      refine T.region ?_
      refine TL.cons rfl (V1.t (V1.move' (by (conv => lhs; whnf) <;> rfl)) ?_)
      refine TL.cons rfl (V1.t (V1.eqNil ty_37 rfl rfl) ?_)
      refine TL.nil ?_
      refine T.cond_f rfl ?_
      refine T.skip ?_
      refine T.seq ?_
      refine T.drawK (fun L_ => Find L_ ⟨bm, 0, .pointer (some ⟨bh, 0, none⟩) :: (opad k2).map byteV, 65⟩) mixed (by repeat (first | exact Find.here | assumption | apply Find.there | apply Find.far)) ?_
      refine TK.take 0 rfl (by decide +kernel) (by decide +kernel) (by decide +kernel) rfl (fun _ _ _ h => h) (fun L_ k1_ => V1.move' (by (conv => lhs; whnf) <;> rfl)) ?_
      refine TK.take 1 rfl (by decide +kernel) (by decide +kernel) (by decide +kernel) rfl (fun _ _ _ h => h) (fun L_ k1_ => V1.nilCheck rfl) ?_
      refine TK.take 2 rfl (by decide +kernel) (by decide +kernel) (by decide +kernel) rfl (fun _ _ _ h => h) (fun L_ k1_ => V1.fieldAddr fl_42_0 rfl) ?_
      refine TK.take 3 rfl (by decide +kernel) (by decide +kernel) (by decide +kernel) rfl (fun _ _ _ h => h) (fun L_ k1_ => V1.load1 one_40 rfl (.own (cells := .pointer (some ⟨bh, 0, none⟩) :: (opad k2).map byteV) (by repeat (first | exact Find.here | assumption | apply Find.there | apply Find.far)) (by rfl))) ?_
      refine TK.take 4 rfl (by decide +kernel) (by decide +kernel) (by decide +kernel) rfl (fun _ _ _ h => h) (fun L_ k1_ => V1.move' (by (conv => lhs; whnf) <;> rfl)) ?_
      refine TK.take 5 rfl (by decide +kernel) (by decide +kernel) (by decide +kernel) rfl (fun _ _ _ h => h) (fun L_ k1_ => V1.move' (by (conv => lhs; whnf) <;> rfl)) ?_
      refine TK.take 6 rfl (by decide +kernel) (by decide +kernel) (by decide +kernel) rfl (fun _ _ _ h => h) (fun L_ k1_ => show V1 _ _ _ _ (.slice fa (m2.take n).length fc) from by rw [← hfe]; exact V1.sliceR1 ty_22 sz_5 hm2 rfl (0) (n) rfl rfl (by omega) (by omega)) ?_
      refine TK.one 7 (by decide +kernel) rfl rfl (T1.buildSl1 (os := [.tmp 44]) (vs := [.slice fa (m2.take n).length fc]) ty_44 sz_22 zr_22 (by decide) rfl (.cons (by (conv => lhs; whnf) <;> rfl) .nil) rfl (ones rfl) (fun b45 => ?_))
      refine ⟨(by repeat (first | exact Find.here | assumption | apply Find.there | apply Find.far)), ?_⟩
      refine TK.one 8 (by decide +kernel) rfl rfl (T1.callX (X := X' ++ ([⟨b45, 0, [.slice fa (m2.take n).length fc], 1⟩] : List Blk)) has_28 rfl (Write256_any _ bh _ _ [m2.take n] X' ([⟨b45, 0, [.slice fa (m2.take n).length fc], 1⟩] : List Blk) hx (PartsR.ones (svs := [.slice fa (m2.take n).length fc]) (size := 1) (by simp) rfl (one_part (PartR.old hfi))) (one_len (by omega)) (show 1 < 9223372036854775807 by decide)) (by repeat (first | exact Take.nil | apply Take.one (by repeat (first | exact Pick.here | apply Pick.there | apply Pick.far)) | apply Take.seg (by repeat (first | exact PickS.last | exact PickS.one | exact PickS.here | exact PickS.nil | apply PickS.there | apply PickS.far)) | exact Take.last (by repeat (first | exact PickS.last | exact PickS.one | exact PickS.here | exact PickS.nil | apply PickS.there | apply PickS.far)))) (fun v3 Y hY => ?_))
      obtain ⟨X2, hx2, rfl⟩ := hY
      simp only [List.append_assoc, List.cons_append, List.nil_append]
      refine ⟨(by repeat (first | exact Find.here | assumption | apply Find.there | apply Find.far)), ?_⟩
      refine TD.done (by decide +kernel) ?_
      refine T.seq ?_
      refine T.drawK (fun L_ => Find L_ ⟨bm, 0, .pointer (some ⟨bh, 0, none⟩) :: (opad k2).map byteV, 65⟩) mixed (by repeat (first | exact Find.here | assumption | apply Find.there | apply Find.far)) ?_
      refine TK.take 0 rfl (by decide +kernel) (by decide +kernel) (by decide +kernel) rfl (fun _ _ _ h => h) (fun L_ k1_ => V1.move' (by (conv => lhs; whnf) <;> rfl)) ?_
      refine TK.take 1 rfl (by decide +kernel) (by decide +kernel) (by decide +kernel) rfl (fun _ _ _ h => h) (fun L_ k1_ => V1.nilCheck rfl) ?_
      refine TK.take 2 rfl (by decide +kernel) (by decide +kernel) (by decide +kernel) rfl (fun _ _ _ h => h) (fun L_ k1_ => V1.fieldAddr fl_42_0 rfl) ?_
      refine TK.take 3 rfl (by decide +kernel) (by decide +kernel) (by decide +kernel) rfl (fun _ _ _ h => h) (fun L_ k1_ => V1.load1 one_40 rfl (.own (cells := .pointer (some ⟨bh, 0, none⟩) :: (opad k2).map byteV) (by repeat (first | exact Find.here | assumption | apply Find.there | apply Find.far)) (by rfl))) ?_
      refine TK.take 4 rfl (by decide +kernel) (by decide +kernel) (by decide +kernel) rfl (fun _ _ _ h => h) (fun L_ k1_ => V1.move' (by (conv => lhs; whnf) <;> rfl)) ?_
      refine TK.take 5 rfl (by decide +kernel) (by decide +kernel) (by decide +kernel) rfl (fun _ _ _ h => h) (fun L_ k1_ => V1.move' (by (conv => lhs; whnf) <;> rfl)) ?_
      refine TK.take 6 rfl (by decide +kernel) (by decide +kernel) (by decide +kernel) rfl (fun _ _ _ h => h) (fun L_ k1_ => show V1 _ _ _ _ (.slice ba (m2.drop n).length bc) from by rw [← hbe]; exact V1.sliceR1 ty_22 sz_5 hm2 rfl (n) (m2.length) rfl rfl (by omega) (by omega)) ?_
      refine TK.one 7 (by decide +kernel) rfl rfl (T1.buildSl1 (os := [.tmp 53, .const (.slice none 0 0)]) (vs := [.slice ba (m2.drop n).length bc, .slice none 0 0]) ty_44 sz_22 zr_22 (by decide) rfl (.cons (by (conv => lhs; whnf) <;> rfl) (.cons (by (conv => lhs; whnf) <;> rfl) .nil)) rfl (ones rfl) (fun b54 => ?_))
      refine ⟨(by repeat (first | exact Find.here | assumption | apply Find.there | apply Find.far)), ?_⟩
      refine TK.one 8 (by decide +kernel) rfl rfl (T1.callX (X := X2 ++ ([⟨b54, 0, [.slice ba (m2.drop n).length bc, .slice none 0 0], 2⟩] : List Blk)) has_28 rfl (Write256_any _ bh _ _ [m2.drop n, []] X2 ([⟨b54, 0, [.slice ba (m2.drop n).length bc, .slice none 0 0], 2⟩] : List Blk) hx2 (PartsR.ones (svs := [.slice ba (m2.drop n).length bc, .slice none 0 0]) (size := 2) (by simp) rfl (two_parts (PartR.old hba) PartR.nil)) (two_len (by omega) (by simp)) (show 2 < 9223372036854775807 by decide)) (by repeat (first | exact Take.nil | apply Take.one (by repeat (first | exact Pick.here | apply Pick.there | apply Pick.far)) | apply Take.seg (by repeat (first | exact PickS.last | exact PickS.one | exact PickS.here | exact PickS.nil | apply PickS.there | apply PickS.far)) | exact Take.last (by repeat (first | exact PickS.last | exact PickS.one | exact PickS.here | exact PickS.nil | apply PickS.there | apply PickS.far)))) (fun v3 Y hY => ?_))
      obtain ⟨X3, hx3, rfl⟩ := hY
      rw [show (ipad k2 ++ ([m2.take n] : List (List UInt8)).flatten ++ ([m2.drop n, []] : List (List UInt8)).flatten) = ipad k2 ++ m2 from by simp [List.append_assoc, hsplit]] at hx3
      simp only [List.append_assoc, List.cons_append, List.nil_append]
      refine ⟨(by repeat (first | exact Find.here | assumption | apply Find.there | apply Find.far)), ?_⟩
      refine TD.done (by decide +kernel) ?_
      refine T.seq ?_
      refine T.live (l := [(0, _), (1, _), (2, _), (7, _), (8, _)]) (.cons (by (conv => lhs; whnf) <;> rfl) (.cons (by (conv => lhs; whnf) <;> rfl) (.cons (by (conv => lhs; whnf) <;> rfl) (.cons (by (conv => lhs; whnf) <;> rfl) (.cons (by (conv => lhs; whnf) <;> rfl) .nil))))) (fun e_ => ?_)
      refine T.drawK (fun L_ => Find L_ ⟨b7, 0, (hmac k2 m2).map byteV, 32⟩) mixed (by repeat (first | exact Find.here | assumption | apply Find.there | apply Find.far)) ?_
      refine TK.take 0 rfl (by decide +kernel) (by decide +kernel) (by decide +kernel) rfl (fun _ _ _ h => h) (fun L_ k1_ => V1.move' (by (conv => lhs; whnf) <;> rfl)) ?_
      refine TK.take 1 rfl (by decide +kernel) (by decide +kernel) (by decide +kernel) rfl (fun _ _ _ h => h) (fun L_ k1_ => V1.move' (by (conv => lhs; whnf) <;> rfl)) ?_
      refine TK.take 4 rfl (by decide +kernel) (by decide +kernel) (by decide +kernel) rfl (fun _ _ _ h => h) (fun L_ k1_ => V1.loadN one_26 sz_26 rfl (RdN.whole (cells := (hmac k2 m2).map byteV) (by repeat (first | exact Find.here | assumption | apply Find.there | apply Find.far))) (by rw [List.length_map, hmac_len])) ?_
      refine TK.one 2 (by decide +kernel) rfl rfl (T1.buildSl1 (os := [.tmp 57]) (vs := [.slice ma2 m2.length mc2]) ty_44 sz_22 zr_22 (by decide) rfl (.cons (by (conv => lhs; whnf) <;> rfl) .nil) rfl (ones rfl) (fun b58 => ?_))
      refine ⟨(by repeat (first | exact Find.here | assumption | apply Find.there | apply Find.far)), ?_⟩
      refine TK.one 3 (by decide +kernel) rfl rfl (T1.callX (X := ([⟨b58, 0, [.slice ma2 m2.length mc2], 1⟩] : List Blk)) has_25 rfl (mac_any _ _ _ k2 [m2] ([⟨b58, 0, [.slice ma2 m2.length mc2], 1⟩] : List Blk) (PartR.old hk2) (by omega) (PartsR.ones (svs := [.slice ma2 m2.length mc2]) (size := 1) (by simp) rfl (one_part (PartR.old hm2))) (one_len (by omega)) (show 1 < 9223372036854775807 by decide) (by simp; omega)) (by repeat (first | exact Take.nil | apply Take.one (by repeat (first | exact Pick.here | apply Pick.there | apply Pick.far)) | apply Take.seg (by repeat (first | exact PickS.last | exact PickS.one | exact PickS.here | exact PickS.nil | apply PickS.there | apply PickS.far)) | exact Take.last (by repeat (first | exact PickS.last | exact PickS.one | exact PickS.here | exact PickS.nil | apply PickS.there | apply PickS.far)))) (fun v Y hY => ?_))
      obtain ⟨rfl, rfl⟩ := hY
      dsimp only [List.cons_append, List.nil_append]
      rw [show ([m2] : List (List UInt8)).flatten = m2 from by simp]
      refine ⟨(by repeat (first | exact Find.here | assumption | apply Find.there | apply Find.far)), ?_⟩
      refine TK.take 5 rfl (by decide +kernel) (by decide +kernel) (by decide +kernel) rfl (fun _ _ _ h => h) (fun L_ k1_ => V1.eqBs (r := true) ty_26 ty_5 sz_5 eg_26 rfl rfl (hmac_len _ _) (hmac_len _ _) (by simp)) ?_
      refine TK.take 6 rfl (by decide +kernel) (by decide +kernel) (by decide +kernel) rfl (fun _ _ _ h => h) (fun L_ k1_ => V1.move' (by (conv => lhs; whnf) <;> rfl)) ?_
      refine TK.take 7 rfl (by decide +kernel) (by decide +kernel) (by decide +kernel) rfl (fun _ _ _ h => h) (fun L_ k1_ => V1.move' (by (conv => lhs; whnf) <;> rfl)) ?_
      refine TK.take 9 rfl (by decide +kernel) (by decide +kernel) (by decide +kernel) rfl (fun _ _ _ h => h) (fun L_ k1_ => V1.loadN one_26 sz_26 rfl (RdN.whole (cells := (hmac k2 m2).map byteV) (by repeat (first | exact Find.here | assumption | apply Find.there | apply Find.far))) (by rw [List.length_map, hmac_len])) ?_
      refine TK.one 8 (by decide +kernel) rfl rfl (T1.callX (X := ⟨bm, 0, .pointer (some ⟨bh, 0, none⟩) :: (opad k2).map byteV, 65⟩ :: X3) has_29 rfl (MSum_any _ bm k2 m2 (⟨bm, 0, .pointer (some ⟨bh, 0, none⟩) :: (opad k2).map byteV, 65⟩ :: X3) ⟨bh, X3, rfl, hx3⟩ (by omega)) (by repeat (first | exact Take.nil | apply Take.one (by repeat (first | exact Pick.here | apply Pick.there | apply Pick.far)) | apply Take.seg (by repeat (first | exact PickS.last | exact PickS.one | exact PickS.here | exact PickS.nil | apply PickS.there | apply PickS.far)) | exact Take.last (by repeat (first | exact PickS.last | exact PickS.one | exact PickS.here | exact PickS.nil | apply PickS.there | apply PickS.far)))) (fun v3 Y hY => ?_))
      obtain ⟨rfl, hzz⟩ := hY
      rw [hzz]
      simp only [List.cons_append]
      refine ⟨(by repeat (first | exact Find.here | assumption | apply Find.there | apply Find.far)), ?_⟩
      refine TK.take 10 rfl (by decide +kernel) (by decide +kernel) (by decide +kernel) rfl (fun _ _ _ h => h) (fun L_ k1_ => V1.eqBs (r := true) ty_26 ty_5 sz_5 eg_26 rfl rfl (hmac_len _ _) (hmac_len _ _) (by simp)) ?_
      refine TK.take 11 rfl (by decide +kernel) (by decide +kernel) (by decide +kernel) rfl (fun _ _ _ h => h) (fun L_ k1_ => V1.pick rfl (by (conv => lhs; whnf) <;> rfl)) ?_
      refine TK.take 12 rfl (by decide +kernel) (by decide +kernel) (by decide +kernel) rfl (fun _ _ _ h => h) (fun L_ k1_ => V1.move' (by (conv => lhs; whnf) <;> rfl)) ?_
      refine TK.take 13 rfl (by decide +kernel) (by decide +kernel) (by decide +kernel) rfl (fun _ _ _ h => h) (fun L_ k1_ => V1.move' (by (conv => lhs; whnf) <;> rfl)) ?_
      refine TK.take 15 rfl (by decide +kernel) (by decide +kernel) (by decide +kernel) rfl (fun _ _ _ h => h) (fun L_ k1_ => V1.loadN one_26 sz_26 rfl (RdN.whole (cells := (hmac k2 m2).map byteV) (by repeat (first | exact Find.here | assumption | apply Find.there | apply Find.far))) (by rw [List.length_map, hmac_len])) ?_
      refine TK.one 14 (by decide +kernel) rfl rfl (T1.callX (X := ⟨bm, 0, .pointer (some ⟨bh, 0, none⟩) :: (opad k2).map byteV, 65⟩ :: X3) has_29 rfl (MSum_any _ bm k2 m2 (⟨bm, 0, .pointer (some ⟨bh, 0, none⟩) :: (opad k2).map byteV, 65⟩ :: X3) ⟨bh, X3, rfl, hx3⟩ (by omega)) (by repeat (first | exact Take.nil | apply Take.one (by repeat (first | exact Pick.here | apply Pick.there | apply Pick.far)) | apply Take.seg (by repeat (first | exact PickS.last | exact PickS.one | exact PickS.here | exact PickS.nil | apply PickS.there | apply PickS.far)) | exact Take.last (by repeat (first | exact PickS.last | exact PickS.one | exact PickS.here | exact PickS.nil | apply PickS.there | apply PickS.far)))) (fun v3 Y hY => ?_))
      obtain ⟨rfl, hzz⟩ := hY
      rw [hzz]
      simp only [List.cons_append]
      refine ⟨(by repeat (first | exact Find.here | assumption | apply Find.there | apply Find.far)), ?_⟩
      refine TK.take 16 rfl (by decide +kernel) (by decide +kernel) (by decide +kernel) rfl (fun _ _ _ h => h) (fun L_ k1_ => V1.eqBs (r := true) ty_26 ty_5 sz_5 eg_26 rfl rfl (hmac_len _ _) (hmac_len _ _) (by simp)) ?_
      refine TK.take 17 rfl (by decide +kernel) (by decide +kernel) (by decide +kernel) rfl (fun _ _ _ h => h) (fun L_ k1_ => V1.pick rfl (by (conv => lhs; whnf) <;> rfl)) ?_
      refine TK.take 18 rfl (by decide +kernel) (by decide +kernel) (by decide +kernel) rfl (fun _ _ _ h => h) (fun L_ k1_ => V1.move' (by (conv => lhs; whnf) <;> rfl)) ?_
      refine TK.take 19 rfl (by decide +kernel) (by decide +kernel) (by decide +kernel) rfl (fun _ _ _ h => h) (fun L_ k1_ => V1.move' (by (conv => lhs; whnf) <;> rfl)) ?_
      refine TK.take 20 rfl (by decide +kernel) (by decide +kernel) (by decide +kernel) rfl (fun _ _ _ h => h) (fun L_ k1_ => V1.move' (by (conv => lhs; whnf) <;> rfl)) ?_
      refine TK.take 21 rfl (by decide +kernel) (by decide +kernel) (by decide +kernel) rfl (fun _ _ _ h => h) (fun L_ k1_ => V1.move' (by (conv => lhs; whnf) <;> rfl)) ?_
      refine TK.take 22 rfl (by decide +kernel) (by decide +kernel) (by decide +kernel) rfl (fun _ _ _ h => h) (fun L_ k1_ => show V1 _ _ _ _ (.slice fa (m2.take n).length fc) from by rw [← hfe]; exact V1.sliceR1 ty_22 sz_5 hm2 rfl (0) (n) rfl rfl (by omega) (by omega)) ?_
      refine TK.take 23 rfl (by decide +kernel) (by decide +kernel) (by decide +kernel) rfl (fun _ _ _ h => h) (fun L_ k1_ => V1.move' (by (conv => lhs; whnf) <;> rfl)) ?_
      refine TK.take 24 rfl (by decide +kernel) (by decide +kernel) (by decide +kernel) rfl (fun _ _ _ h => h) (fun L_ k1_ => V1.move' (by (conv => lhs; whnf) <;> rfl)) ?_
      refine TK.take 25 rfl (by decide +kernel) (by decide +kernel) (by decide +kernel) rfl (fun _ _ _ h => h) (fun L_ k1_ => show V1 _ _ _ _ (.slice ba (m2.drop n).length bc) from by rw [← hbe]; exact V1.sliceR1 ty_22 sz_5 hm2 rfl (n) (m2.length) rfl rfl (by omega) (by omega)) ?_
      refine TK.take 28 rfl (by decide +kernel) (by decide +kernel) (by decide +kernel) rfl (fun _ _ _ h => h) (fun L_ k1_ => V1.loadN one_26 sz_26 rfl (RdN.whole (cells := (hmac k2 m2).map byteV) (by repeat (first | exact Find.here | assumption | apply Find.there | apply Find.far))) (by rw [List.length_map, hmac_len])) ?_
      refine TK.one 26 (by decide +kernel) rfl rfl (T1.buildSl1 (os := [.tmp 78, .tmp 81]) (vs := [.slice fa (m2.take n).length fc, .slice ba (m2.drop n).length bc]) ty_44 sz_22 zr_22 (by decide) rfl (.cons (by (conv => lhs; whnf) <;> rfl) (.cons (by (conv => lhs; whnf) <;> rfl) .nil)) rfl (ones rfl) (fun b82 => ?_))
      refine ⟨(by repeat (first | exact Find.here | assumption | apply Find.there | apply Find.far)), ?_⟩
      refine TK.one 27 (by decide +kernel) rfl rfl (T1.callX (X := ([⟨b82, 0, [.slice fa (m2.take n).length fc, .slice ba (m2.drop n).length bc], 2⟩] : List Blk)) has_30 rfl (Extract_any _ _ _ k2 [m2.take n, m2.drop n] ([⟨b82, 0, [.slice fa (m2.take n).length fc, .slice ba (m2.drop n).length bc], 2⟩] : List Blk) (PartR.old hk2) (by omega) (PartsR.ones (svs := [.slice fa (m2.take n).length fc, .slice ba (m2.drop n).length bc]) (size := 2) (by simp) rfl (two_parts (PartR.old hfi) (PartR.old hba))) (two_len (by omega) (by omega)) (show 2 < 9223372036854775807 by decide) (by simp [hsplit]; omega)) (by repeat (first | exact Take.nil | apply Take.one (by repeat (first | exact Pick.here | apply Pick.there | apply Pick.far)) | apply Take.seg (by repeat (first | exact PickS.last | exact PickS.one | exact PickS.here | exact PickS.nil | apply PickS.there | apply PickS.far)) | exact Take.last (by repeat (first | exact PickS.last | exact PickS.one | exact PickS.here | exact PickS.nil | apply PickS.there | apply PickS.far)))) (fun v Y hY => ?_))
      obtain ⟨rfl, rfl⟩ := hY
      dsimp only [List.cons_append, List.nil_append]
      rw [show ([m2.take n, m2.drop n] : List (List UInt8)).flatten = m2 from by simp [hsplit]]
      refine ⟨(by repeat (first | exact Find.here | assumption | apply Find.there | apply Find.far)), ?_⟩
      refine TK.take 29 rfl (by decide +kernel) (by decide +kernel) (by decide +kernel) rfl (fun _ _ _ h => h) (fun L_ k1_ => V1.eqBs (r := true) ty_26 ty_5 sz_5 eg_26 rfl rfl (hmac_len _ _) (hmac_len _ _) (by simp)) ?_
      refine TK.take 30 rfl (by decide +kernel) (by decide +kernel) (by decide +kernel) rfl (fun _ _ _ h => h) (fun L_ k1_ => V1.pick rfl (by (conv => lhs; whnf) <;> rfl)) ?_
      refine TK.take 31 rfl (by decide +kernel) (by decide +kernel) (by decide +kernel) rfl (fun _ _ _ h => h) (fun L_ k1_ => V1.assign' (by (conv => lhs; whnf) <;> rfl)) ?_
      refine TD.done (by decide +kernel) ?_
      refine T.ret ?_
      exact ⟨_, [], _, .cons (.tmp (by (conv => lhs; whnf) <;> rfl)) .nil, Take.nil, rfl⟩
    ·
      obtain ⟨n, rfl⟩ : ∃ n : Nat, at_ = (n : Int) := ⟨at_.toNat, by omega⟩
      have hnb : n ≤ m2.length := by omega
      refine TL.cons rfl (V1.t (V1.pick rfl (by (conv => lhs; whnf) <;> rfl)) ?_)
      refine TL.nil ?_
      refine T.cond_f rfl ?_
      refine T.skip ?_
      refine T.seq ?_
      refine T.region ?_
      refine TL.cons rfl (V1.t (V1.move' (by (conv => lhs; whnf) <;> rfl)) ?_)
      refine TL.cons rfl (V1.t (V1.bytesToStr (l := k2) ty_22 ty_5 ty_9 rfl (hk2.src rfl) (by intro b h; cases h)) ?_)
      refine TL.cons rfl (V1.t (V1.move' (by (conv => lhs; whnf) <;> rfl)) ?_)
      refine TL.cons rfl (V1.t (V1.bytesToStr (l := m2) ty_22 ty_5 ty_9 rfl (hm2.src rfl) (by intro b h; cases h)) ?_)
      refine TL.cons rfl (T1.call0 has_26 rfl (fun w hs => refmac_any k2 m2 w (by omega) (by omega)) (fun v hv => ?_))
      subst hv
      refine TL.cons rfl (T1.allocN 32 zr_26 rfl (fun b7 => ?_))
      refine TL.cons rfl (T1.storeN rfl rfl sz_26 (one_bytes _) (by repeat (first | exact Sub.one | apply Sub.there | apply Sub.far)) (by rw [List.length_map, hmac_len]; rfl) (by rw [List.length_map, hmac_len]) ?_)
      have hfi := slV_is hm2 0 n (Nat.zero_le _) hnb
      have hba := slV_is hm2 n m2.length hnb (Nat.le_refl _)
      rw [Nat.sub_zero, List.drop_zero] at hfi
      rw [List.take_of_length_le (show (m2.drop n).length ≤ m2.length - n by rw [List.length_drop]; exact Nat.le_refl _)] at hba
      replace hfi : SlR w0 (slV ma2 mc2 0 n) 1 (m2.take n).length ((m2.take n).map byteV) := by rw [List.length_take, Nat.min_eq_left hnb]; exact hfi
      replace hba : SlR w0 (slV ma2 mc2 n m2.length) 1 (m2.drop n).length ((m2.drop n).map byteV) := by rw [List.length_drop]; exact hba
      obtain ⟨fa, fc, hfe⟩ := hfi.form
      rw [hfe] at hfi
      obtain ⟨ba, bc, hbe⟩ := hba.form
      rw [hbe] at hba
      have hsplit : m2.take n ++ m2.drop n = m2 := List.take_append_drop n m2
      have hfl1 : (m2.take n).length ≤ 600 := by rw [List.length_take]; omega
      have hfl2 : (m2.drop n).length ≤ 600 := by rw [List.length_drop]; omega
      refine TL.nil ?_
      refine T.seq ?_
      refine T.live (l := [(0, _), (1, _), (2, _), (7, _)]) (.cons (by (conv => lhs; whnf) <;> rfl) (.cons (by (conv => lhs; whnf) <;> rfl) (.cons (by (conv => lhs; whnf) <;> rfl) (.cons (by (conv => lhs; whnf) <;> rfl) .nil)))) (fun e_ => ?_)
      refine T.region ?_
      refine TL.cons rfl (V1.t (V1.move' (by (conv => lhs; whnf) <;> rfl)) ?_)
      refine TL.cons rfl (T1.callX (X := []) has_27 rfl (macNew_any _ _ k2 [] (PartR.old hk2) (by omega)) Take.nil (fun v2 Y hY => ?_))
      obtain ⟨bm, bh, X', rfl, rfl, hx⟩ := hY
      simp only [List.cons_append, List.append_nil]
      refine TL.cons rfl (V1.t (V1.assign' (by (conv => lhs; whnf) <;> rfl)) ?_)
      refine TL.nil ?_
      refine T.seq ?_
      refine T.seq ?_
      refine T.region ?_
      refine TL.cons rfl (V1.t (V1.move' (by (conv => lhs; whnf) <;> rfl)) ?_)
      refine TL.cons rfl (V1.t (V1.eqNil ty_37 rfl rfl) ?_)
      refine TL.nil ?_
      refine T.cond_f rfl ?_
      refine T.skip ?_
      refine T.seq ?_
      refine T.drawK (fun L_ => Find L_ ⟨bm, 0, .pointer (some ⟨bh, 0, none⟩) :: (opad k2).map byteV, 65⟩) mixed (by repeat (first | exact Find.here | assumption | apply Find.there | apply Find.far)) ?_
      refine TK.take 0 rfl (by decide +kernel) (by decide +kernel) (by decide +kernel) rfl (fun _ _ _ h => h) (fun L_ k1_ => V1.move' (by (conv => lhs; whnf) <;> rfl)) ?_
      refine TK.take 1 rfl (by decide +kernel) (by decide +kernel) (by decide +kernel) rfl (fun _ _ _ h => h) (fun L_ k1_ => V1.nilCheck rfl) ?_
      refine TK.take 2 rfl (by decide +kernel) (by decide +kernel) (by decide +kernel) rfl (fun _ _ _ h => h) (fun L_ k1_ => V1.fieldAddr fl_42_0 rfl) ?_
      refine TK.take 3 rfl (by decide +kernel) (by decide +kernel) (by decide +kernel) rfl (fun _ _ _ h => h) (fun L_ k1_ => V1.load1 one_40 rfl (.own (cells := .pointer (some ⟨bh, 0, none⟩) :: (opad k2).map byteV) (by repeat (first | exact Find.here | assumption | apply Find.there | apply Find.far)) (by rfl))) ?_
      refine TK.take 4 rfl (by decide +kernel) (by decide +kernel) (by decide +kernel) rfl (fun _ _ _ h => h) (fun L_ k1_ => V1.move' (by (conv => lhs; whnf) <;> rfl)) ?_
      refine TK.take 5 rfl (by decide +kernel) (by decide +kernel) (by decide +kernel) rfl (fun _ _ _ h => h) (fun L_ k1_ => V1.move' (by (conv => lhs; whnf) <;> rfl)) ?_
      refine TK.take 6 rfl (by decide +kernel) (by decide +kernel) (by decide +kernel) rfl (fun _ _ _ h => h) (fun L_ k1_ => show V1 _ _ _ _ (.slice fa (m2.take n).length fc) from by rw [← hfe]; exact V1.sliceR1 ty_22 sz_5 hm2 rfl (0) (n) rfl rfl (by omega) (by omega)) ?_
      refine TK.one 7 (by decide +kernel) rfl rfl (T1.buildSl1 (os := [.tmp 44]) (vs := [.slice fa (m2.take n).length fc]) ty_44 sz_22 zr_22 (by decide) rfl (.cons (by (conv => lhs; whnf) <;> rfl) .nil) rfl (ones rfl) (fun b45 => ?_))
      refine ⟨(by repeat (first | exact Find.here | assumption | apply Find.there | apply Find.far)), ?_⟩
      refine TK.one 8 (by decide +kernel) rfl rfl (T1.callX (X := X' ++ ([⟨b45, 0, [.slice fa (m2.take n).length fc], 1⟩] : List Blk)) has_28 rfl (Write256_any _ bh _ _ [m2.take n] X' ([⟨b45, 0, [.slice fa (m2.take n).length fc], 1⟩] : List Blk) hx (PartsR.ones (svs := [.slice fa (m2.take n).length fc]) (size := 1) (by simp) rfl (one_part (PartR.old hfi))) (one_len (by omega)) (show 1 < 9223372036854775807 by decide)) (by repeat (first | exact Take.nil | apply Take.one (by repeat (first | exact Pick.here | apply Pick.there | apply Pick.far)) | apply Take.seg (by repeat (first | exact PickS.last | exact PickS.one | exact PickS.here | exact PickS.nil | apply PickS.there | apply PickS.far)) | exact Take.last (by repeat (first | exact PickS.last | exact PickS.one | exact PickS.here | exact PickS.nil | apply PickS.there | apply PickS.far)))) (fun v3 Y hY => ?_))
      obtain ⟨X2, hx2, rfl⟩ := hY
      simp only [List.append_assoc, List.cons_append, List.nil_append]
      refine ⟨(by repeat (first | exact Find.here | assumption | apply Find.there | apply Find.far)), ?_⟩
      refine TD.done (by decide +kernel) ?_
      refine T.seq ?_
      refine T.drawK (fun L_ => Find L_ ⟨bm, 0, .pointer (some ⟨bh, 0, none⟩) :: (opad k2).map byteV, 65⟩) mixed (by repeat (first | exact Find.here | assumption | apply Find.there | apply Find.far)) ?_
      refine TK.take 0 rfl (by decide +kernel) (by decide +kernel) (by decide +kernel) rfl (fun _ _ _ h => h) (fun L_ k1_ => V1.move' (by (conv => lhs; whnf) <;> rfl)) ?_
      refine TK.take 1 rfl (by decide +kernel) (by decide +kernel) (by decide +kernel) rfl (fun _ _ _ h => h) (fun L_ k1_ => V1.nilCheck rfl) ?_
      refine TK.take 2 rfl (by decide +kernel) (by decide +kernel) (by decide +kernel) rfl (fun _ _ _ h => h) (fun L_ k1_ => V1.fieldAddr fl_42_0 rfl) ?_
      refine TK.take 3 rfl (by decide +kernel) (by decide +kernel) (by decide +kernel) rfl (fun _ _ _ h => h) (fun L_ k1_ => V1.load1 one_40 rfl (.own (cells := .pointer (some ⟨bh, 0, none⟩) :: (opad k2).map byteV) (by repeat (first | exact Find.here | assumption | apply Find.there | apply Find.far)) (by rfl))) ?_
      refine TK.take 4 rfl (by decide +kernel) (by decide +kernel) (by decide +kernel) rfl (fun _ _ _ h => h) (fun L_ k1_ => V1.move' (by (conv => lhs; whnf) <;> rfl)) ?_
      refine TK.take 5 rfl (by decide +kernel) (by decide +kernel) (by decide +kernel) rfl (fun _ _ _ h => h) (fun L_ k1_ => V1.move' (by (conv => lhs; whnf) <;> rfl)) ?_
      refine TK.take 6 rfl (by decide +kernel) (by decide +kernel) (by decide +kernel) rfl (fun _ _ _ h => h) (fun L_ k1_ => show V1 _ _ _ _ (.slice ba (m2.drop n).length bc) from by rw [← hbe]; exact V1.sliceR1 ty_22 sz_5 hm2 rfl (n) (m2.length) rfl rfl (by omega) (by omega)) ?_
      refine TK.one 7 (by decide +kernel) rfl rfl (T1.buildSl1 (os := [.tmp 53, .const (.slice none 0 0)]) (vs := [.slice ba (m2.drop n).length bc, .slice none 0 0]) ty_44 sz_22 zr_22 (by decide) rfl (.cons (by (conv => lhs; whnf) <;> rfl) (.cons (by (conv => lhs; whnf) <;> rfl) .nil)) rfl (ones rfl) (fun b54 => ?_))
      refine ⟨(by repeat (first | exact Find.here | assumption | apply Find.there | apply Find.far)), ?_⟩
      refine TK.one 8 (by decide +kernel) rfl rfl (T1.callX (X := X2 ++ ([⟨b54, 0, [.slice ba (m2.drop n).length bc, .slice none 0 0], 2⟩] : List Blk)) has_28 rfl (Write256_any _ bh _ _ [m2.drop n, []] X2 ([⟨b54, 0, [.slice ba (m2.drop n).length bc, .slice none 0 0], 2⟩] : List Blk) hx2 (PartsR.ones (svs := [.slice ba (m2.drop n).length bc, .slice none 0 0]) (size := 2) (by simp) rfl (two_parts (PartR.old hba) PartR.nil)) (two_len (by omega) (by simp)) (show 2 < 9223372036854775807 by decide)) (by repeat (first | exact Take.nil | apply Take.one (by repeat (first | exact Pick.here | apply Pick.there | apply Pick.far)) | apply Take.seg (by repeat (first | exact PickS.last | exact PickS.one | exact PickS.here | exact PickS.nil | apply PickS.there | apply PickS.far)) | exact Take.last (by repeat (first | exact PickS.last | exact PickS.one | exact PickS.here | exact PickS.nil | apply PickS.there | apply PickS.far)))) (fun v3 Y hY => ?_))
      obtain ⟨X3, hx3, rfl⟩ := hY
      rw [show (ipad k2 ++ ([m2.take n] : List (List UInt8)).flatten ++ ([m2.drop n, []] : List (List UInt8)).flatten) = ipad k2 ++ m2 from by simp [List.append_assoc, hsplit]] at hx3
      simp only [List.append_assoc, List.cons_append, List.nil_append]
      refine ⟨(by repeat (first | exact Find.here | assumption | apply Find.there | apply Find.far)), ?_⟩
      refine TD.done (by decide +kernel) ?_
      refine T.seq ?_
      refine T.live (l := [(0, _), (1, _), (2, _), (7, _), (8, _)]) (.cons (by (conv => lhs; whnf) <;> rfl) (.cons (by (conv => lhs; whnf) <;> rfl) (.cons (by (conv => lhs; whnf) <;> rfl) (.cons (by (conv => lhs; whnf) <;> rfl) (.cons (by (conv => lhs; whnf) <;> rfl) .nil))))) (fun e_ => ?_)
      refine T.drawK (fun L_ => Find L_ ⟨b7, 0, (hmac k2 m2).map byteV, 32⟩) mixed (by repeat (first | exact Find.here | assumption | apply Find.there | apply Find.far)) ?_
      refine TK.take 0 rfl (by decide +kernel) (by decide +kernel) (by decide +kernel) rfl (fun _ _ _ h => h) (fun L_ k1_ => V1.move' (by (conv => lhs; whnf) <;> rfl)) ?_
      refine TK.take 1 rfl (by decide +kernel) (by decide +kernel) (by decide +kernel) rfl (fun _ _ _ h => h) (fun L_ k1_ => V1.move' (by (conv => lhs; whnf) <;> rfl)) ?_
      refine TK.take 4 rfl (by decide +kernel) (by decide +kernel) (by decide +kernel) rfl (fun _ _ _ h => h) (fun L_ k1_ => V1.loadN one_26 sz_26 rfl (RdN.whole (cells := (hmac k2 m2).map byteV) (by repeat (first | exact Find.here | assumption | apply Find.there | apply Find.far))) (by rw [List.length_map, hmac_len])) ?_
      refine TK.one 2 (by decide +kernel) rfl rfl (T1.buildSl1 (os := [.tmp 57]) (vs := [.slice ma2 m2.length mc2]) ty_44 sz_22 zr_22 (by decide) rfl (.cons (by (conv => lhs; whnf) <;> rfl) .nil) rfl (ones rfl) (fun b58 => ?_))
      refine ⟨(by repeat (first | exact Find.here | assumption | apply Find.there | apply Find.far)), ?_⟩
      refine TK.one 3 (by decide +kernel) rfl rfl (T1.callX (X := ([⟨b58, 0, [.slice ma2 m2.length mc2], 1⟩] : List Blk)) has_25 rfl (mac_any _ _ _ k2 [m2] ([⟨b58, 0, [.slice ma2 m2.length mc2], 1⟩] : List Blk) (PartR.old hk2) (by omega) (PartsR.ones (svs := [.slice ma2 m2.length mc2]) (size := 1) (by simp) rfl (one_part (PartR.old hm2))) (one_len (by omega)) (show 1 < 9223372036854775807 by decide) (by simp; omega)) (by repeat (first | exact Take.nil | apply Take.one (by repeat (first | exact Pick.here | apply Pick.there | apply Pick.far)) | apply Take.seg (by repeat (first | exact PickS.last | exact PickS.one | exact PickS.here | exact PickS.nil | apply PickS.there | apply PickS.far)) | exact Take.last (by repeat (first | exact PickS.last | exact PickS.one | exact PickS.here | exact PickS.nil | apply PickS.there | apply PickS.far)))) (fun v Y hY => ?_))
      obtain ⟨rfl, rfl⟩ := hY
      dsimp only [List.cons_append, List.nil_append]
      rw [show ([m2] : List (List UInt8)).flatten = m2 from by simp]
      refine ⟨(by repeat (first | exact Find.here | assumption | apply Find.there | apply Find.far)), ?_⟩
      refine TK.take 5 rfl (by decide +kernel) (by decide +kernel) (by decide +kernel) rfl (fun _ _ _ h => h) (fun L_ k1_ => V1.eqBs (r := true) ty_26 ty_5 sz_5 eg_26 rfl rfl (hmac_len _ _) (hmac_len _ _) (by simp)) ?_
      refine TK.take 6 rfl (by decide +kernel) (by decide +kernel) (by decide +kernel) rfl (fun _ _ _ h => h) (fun L_ k1_ => V1.move' (by (conv => lhs; whnf) <;> rfl)) ?_
      refine TK.take 7 rfl (by decide +kernel) (by decide +kernel) (by decide +kernel) rfl (fun _ _ _ h => h) (fun L_ k1_ => V1.move' (by (conv => lhs; whnf) <;> rfl)) ?_
      refine TK.take 9 rfl (by decide +kernel) (by decide +kernel) (by decide +kernel) rfl (fun _ _ _ h => h) (fun L_ k1_ => V1.loadN one_26 sz_26 rfl (RdN.whole (cells := (hmac k2 m2).map byteV) (by repeat (first | exact Find.here | assumption | apply Find.there | apply Find.far))) (by rw [List.length_map, hmac_len])) ?_
      refine TK.one 8 (by decide +kernel) rfl rfl (T1.callX (X := ⟨bm, 0, .pointer (some ⟨bh, 0, none⟩) :: (opad k2).map byteV, 65⟩ :: X3) has_29 rfl (MSum_any _ bm k2 m2 (⟨bm, 0, .pointer (some ⟨bh, 0, none⟩) :: (opad k2).map byteV, 65⟩ :: X3) ⟨bh, X3, rfl, hx3⟩ (by omega)) (by repeat (first | exact Take.nil | apply Take.one (by repeat (first | exact Pick.here | apply Pick.there | apply Pick.far)) | apply Take.seg (by repeat (first | exact PickS.last | exact PickS.one | exact PickS.here | exact PickS.nil | apply PickS.there | apply PickS.far)) | exact Take.last (by repeat (first | exact PickS.last | exact PickS.one | exact PickS.here | exact PickS.nil | apply PickS.there | apply PickS.far)))) (fun v3 Y hY => ?_))
      obtain ⟨rfl, hzz⟩ := hY
      rw [hzz]
      simp only [List.cons_append]
      refine ⟨(by repeat (first | exact Find.here | assumption | apply Find.there | apply Find.far)), ?_⟩
      refine TK.take 10 rfl (by decide +kernel) (by decide +kernel) (by decide +kernel) rfl (fun _ _ _ h => h) (fun L_ k1_ => V1.eqBs (r := true) ty_26 ty_5 sz_5 eg_26 rfl rfl (hmac_len _ _) (hmac_len _ _) (by simp)) ?_
      refine TK.take 11 rfl (by decide +kernel) (by decide +kernel) (by decide +kernel) rfl (fun _ _ _ h => h) (fun L_ k1_ => V1.pick rfl (by (conv => lhs; whnf) <;> rfl)) ?_
      refine TK.take 12 rfl (by decide +kernel) (by decide +kernel) (by decide +kernel) rfl (fun _ _ _ h => h) (fun L_ k1_ => V1.move' (by (conv => lhs; whnf) <;> rfl)) ?_
      refine TK.take 13 rfl (by decide +kernel) (by decide +kernel) (by decide +kernel) rfl (fun _ _ _ h => h) (fun L_ k1_ => V1.move' (by (conv => lhs; whnf) <;> rfl)) ?_
      refine TK.take 15 rfl (by decide +kernel) (by decide +kernel) (by decide +kernel) rfl (fun _ _ _ h => h) (fun L_ k1_ => V1.loadN one_26 sz_26 rfl (RdN.whole (cells := (hmac k2 m2).map byteV) (by repeat (first | exact Find.here | assumption | apply Find.there | apply Find.far))) (by rw [List.length_map, hmac_len])) ?_
      refine TK.one 14 (by decide +kernel) rfl rfl (T1.callX (X := ⟨bm, 0, .pointer (some ⟨bh, 0, none⟩) :: (opad k2).map byteV, 65⟩ :: X3) has_29 rfl (MSum_any _ bm k2 m2 (⟨bm, 0, .pointer (some ⟨bh, 0, none⟩) :: (opad k2).map byteV, 65⟩ :: X3) ⟨bh, X3, rfl, hx3⟩ (by omega)) (by repeat (first | exact Take.nil | apply Take.one (by repeat (first | exact Pick.here | apply Pick.there | apply Pick.far)) | apply Take.seg (by repeat (first | exact PickS.last | exact PickS.one | exact PickS.here | exact PickS.nil | apply PickS.there | apply PickS.far)) | exact Take.last (by repeat (first | exact PickS.last | exact PickS.one | exact PickS.here | exact PickS.nil | apply PickS.there | apply PickS.far)))) (fun v3 Y hY => ?_))
      obtain ⟨rfl, hzz⟩ := hY
      rw [hzz]
      simp only [List.cons_append]
      refine ⟨(by repeat (first | exact Find.here | assumption | apply Find.there | apply Find.far)), ?_⟩
      refine TK.take 16 rfl (by decide +kernel) (by decide +kernel) (by decide +kernel) rfl (fun _ _ _ h => h) (fun L_ k1_ => V1.eqBs (r := true) ty_26 ty_5 sz_5 eg_26 rfl rfl (hmac_len _ _) (hmac_len _ _) (by simp)) ?_
      refine TK.take 17 rfl (by decide +kernel) (by decide +kernel) (by decide +kernel) rfl (fun _ _ _ h => h) (fun L_ k1_ => V1.pick rfl (by (conv => lhs; whnf) <;> rfl)) ?_
      refine TK.take 18 rfl (by decide +kernel) (by decide +kernel) (by decide +kernel) rfl (fun _ _ _ h => h) (fun L_ k1_ => V1.move' (by (conv => lhs; whnf) <;> rfl)) ?_
      refine TK.take 19 rfl (by decide +kernel) (by decide +kernel) (by decide +kernel) rfl (fun _ _ _ h => h) (fun L_ k1_ => V1.move' (by (conv => lhs; whnf) <;> rfl)) ?_
      refine TK.take 20 rfl (by decide +kernel) (by decide +kernel) (by decide +kernel) rfl (fun _ _ _ h => h) (fun L_ k1_ => V1.move' (by (conv => lhs; whnf) <;> rfl)) ?_
      refine TK.take 21 rfl (by decide +kernel) (by decide +kernel) (by decide +kernel) rfl (fun _ _ _ h => h) (fun L_ k1_ => V1.move' (by (conv => lhs; whnf) <;> rfl)) ?_
      refine TK.take 22 rfl (by decide +kernel) (by decide +kernel) (by decide +kernel) rfl (fun _ _ _ h => h) (fun L_ k1_ => show V1 _ _ _ _ (.slice fa (m2.take n).length fc) from by rw [← hfe]; exact V1.sliceR1 ty_22 sz_5 hm2 rfl (0) (n) rfl rfl (by omega) (by omega)) ?_
      refine TK.take 23 rfl (by decide +kernel) (by decide +kernel) (by decide +kernel) rfl (fun _ _ _ h => h) (fun L_ k1_ => V1.move' (by (conv => lhs; whnf) <;> rfl)) ?_
      refine TK.take 24 rfl (by decide +kernel) (by decide +kernel) (by decide +kernel) rfl (fun _ _ _ h => h) (fun L_ k1_ => V1.move' (by (conv => lhs; whnf) <;> rfl)) ?_
      refine TK.take 25 rfl (by decide +kernel) (by decide +kernel) (by decide +kernel) rfl (fun _ _ _ h => h) (fun L_ k1_ => show V1 _ _ _ _ (.slice ba (m2.drop n).length bc) from by rw [← hbe]; exact V1.sliceR1 ty_22 sz_5 hm2 rfl (n) (m2.length) rfl rfl (by omega) (by omega)) ?_
      refine TK.take 28 rfl (by decide +kernel) (by decide +kernel) (by decide +kernel) rfl (fun _ _ _ h => h) (fun L_ k1_ => V1.loadN one_26 sz_26 rfl (RdN.whole (cells := (hmac k2 m2).map byteV) (by repeat (first | exact Find.here | assumption | apply Find.there | apply Find.far))) (by rw [List.length_map, hmac_len])) ?_
      refine TK.one 26 (by decide +kernel) rfl rfl (T1.buildSl1 (os := [.tmp 78, .tmp 81]) (vs := [.slice fa (m2.take n).length fc, .slice ba (m2.drop n).length bc]) ty_44 sz_22 zr_22 (by decide) rfl (.cons (by (conv => lhs; whnf) <;> rfl) (.cons (by (conv => lhs; whnf) <;> rfl) .nil)) rfl (ones rfl) (fun b82 => ?_))
      refine ⟨(by repeat (first | exact Find.here | assumption | apply Find.there | apply Find.far)), ?_⟩
      refine TK.one 27 (by decide +kernel) rfl rfl (T1.callX (X := ([⟨b82, 0, [.slice fa (m2.take n).length fc, .slice ba (m2.drop n).length bc], 2⟩] : List Blk)) has_30 rfl (Extract_any _ _ _ k2 [m2.take n, m2.drop n] ([⟨b82, 0, [.slice fa (m2.take n).length fc, .slice ba (m2.drop n).length bc], 2⟩] : List Blk) (PartR.old hk2) (by omega) (PartsR.ones (svs := [.slice fa (m2.take n).length fc, .slice ba (m2.drop n).length bc]) (size := 2) (by simp) rfl (two_parts (PartR.old hfi) (PartR.old hba))) (two_len (by omega) (by omega)) (show 2 < 9223372036854775807 by decide) (by simp [hsplit]; omega)) (by repeat (first | exact Take.nil | apply Take.one (by repeat (first | exact Pick.here | apply Pick.there | apply Pick.far)) | apply Take.seg (by repeat (first | exact PickS.last | exact PickS.one | exact PickS.here | exact PickS.nil | apply PickS.there | apply PickS.far)) | exact Take.last (by repeat (first | exact PickS.last | exact PickS.one | exact PickS.here | exact PickS.nil | apply PickS.there | apply PickS.far)))) (fun v Y hY => ?_))
      obtain ⟨rfl, rfl⟩ := hY
      dsimp only [List.cons_append, List.nil_append]
      rw [show ([m2.take n, m2.drop n] : List (List UInt8)).flatten = m2 from by simp [hsplit]]
      refine ⟨(by repeat (first | exact Find.here | assumption | apply Find.there | apply Find.far)), ?_⟩
      refine TK.take 29 rfl (by decide +kernel) (by decide +kernel) (by decide +kernel) rfl (fun _ _ _ h => h) (fun L_ k1_ => V1.eqBs (r := true) ty_26 ty_5 sz_5 eg_26 rfl rfl (hmac_len _ _) (hmac_len _ _) (by simp)) ?_
      refine TK.take 30 rfl (by decide +kernel) (by decide +kernel) (by decide +kernel) rfl (fun _ _ _ h => h) (fun L_ k1_ => V1.pick rfl (by (conv => lhs; whnf) <;> rfl)) ?_
      refine TK.take 31 rfl (by decide +kernel) (by decide +kernel) (by decide +kernel) rfl (fun _ _ _ h => h) (fun L_ k1_ => V1.assign' (by (conv => lhs; whnf) <;> rfl)) ?_
      refine TD.done (by decide +kernel) ?_
      refine T.ret ?_
      exact ⟨_, [], _, .cons (.tmp (by (conv => lhs; whnf) <;> rfl)) .nil, Take.nil, rfl⟩

end Go.Proofs.Ytelcmllfojfbfaa.S
