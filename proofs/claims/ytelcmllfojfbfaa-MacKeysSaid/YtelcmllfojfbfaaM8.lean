/- Of fewer bytes a call makes the first of those that it makes of more. -/
import Derived.Test.YtelcmllfojfbfaaM7
namespace Go.Proofs.Ytelcmllfojfbfaa.S
open Go.RowKit

open Sh
theorem exS_pre (key info : List UInt8) (i : Nat) : ∀ k, (exS key info (i + k)).1.take (32 * i) = (exS key info i).1
  | 0 => List.take_of_length_le (by rw [Nat.add_zero, (exS_len key info i).1]; exact Nat.le_refl _)
  | k + 1 => by
    show ((exS key info (i + k)).1 ++ _).take (32 * i) = _
    rw [List.take_append_of_le_length (by rw [(exS_len key info (i + k)).1]; omega)]
    exact exS_pre key info i k
theorem expB_take (key info : List UInt8) {m a : Nat} (h : m ≤ a) : (expB key info a).take m = (exS key info ((m + 31) / 32)).1.take m := by
  unfold expB
  obtain ⟨k, hk⟩ : ∃ k, (a + 31) / 32 = (m + 31) / 32 + k := ⟨(a + 31) / 32 - (m + 31) / 32, by omega⟩
  rw [List.take_take, Nat.min_eq_left h, hk]
  have := congrArg (List.take m) (exS_pre key info ((m + 31) / 32) k)
  rw [List.take_take, Nat.min_eq_left (by omega)] at this
  exact this
theorem expB_len (key info : List UInt8) (n : Nat) : (expB key info n).length = n := by
  unfold expB
  rw [List.length_take, (exS_len key info _).1]; omega
theorem V1.slOwn {C : Ctx} {e : Env} {L Ls : List Blk} {dst : Option Tmp} {ty : TypeId} {pos : String} {after : Array Edge} {guard : Option (Nat × Bool)} {t el : TypeId} {x : Operand} {lo hi : Option Operand} {a : Option Addr} {n c : Nat} {vs : List Value} (hT : C.P.underlying t = some (.slice el)) (hk : SizeIs C.P el 1) (hs : Sl (.slice a n c) vs 1 Ls) (hx : ev C.n e x = .slice a n c) (h : Nat)
    (hl : bd C.n e lo 0 = some 0) (hh : bd C.n e hi n = some (h : Int)) (h2 : h ≤ n) : V1 C ⟨dst, .slice t x lo hi none, ty, pos, after, guard⟩ e L (slV a c 0 h) := by
  rcases hs with ⟨h0, rfl, rfl⟩ | ⟨b, o, len, cap, size, h0, h1, hle, h3, rfl⟩
  · cases h0
    obtain rfl : h = 0 := by omega
    exact V1.sliceNil hT hk hx hl hh
  · cases h0
    have := V1.sliceSl (dst := dst) (ty := ty) (pos := pos) (after := after) (guard := guard) (L := L) hT hk hx hl hh (by omega) (by omega) (by omega)
    simpa [slV] using this
theorem slV_own {C : Ctx} {L L' Ls : List Blk} {a : Option Addr} {n c m : Nat} {p : List UInt8} (hs : Sl (.slice a n c) (p.map byteV) 1 Ls) (hsub : Sub L Ls L' Ls) (hm : m ≤ n) : Src C L 1 (slV a c 0 m) m ((p.take m).map byteV) := by
  rcases hs with ⟨h0, _, rfl⟩ | ⟨b, o, len, cap, size, h0, h1, hle, h3, rfl⟩
  · cases h0
    obtain rfl : m = 0 := by omega
    exact .nil
  · cases h0
    rw [List.length_map, Nat.mul_one] at h1
    have e1 : slV (some ⟨b, o, none⟩) c 0 m = .slice (some ⟨b, o + 0, none⟩) m c := by simp [slV]
    rw [e1, List.map_take]
    have := RdN.sub (C := C) (o := 0) (k := m) hsub.find
    rw [List.drop_zero] at this
    exact .sl this (by rw [List.length_take, List.length_map]; omega)
theorem slV_str (a : Option Addr) (c l h : Nat) : ∀ b, slV a c l h ≠ .string b := by
  intro b hb
  unfold slV at hb
  split at hb <;> cases hb

set_option maxRecDepth 100000 in
set_option maxHeartbeats 8000000 in
theorem MacMore_any (v2 : Value) (key info : List UInt8) (x1 x2 : Int) (w0 : World) (hkl : key.length = 32) (hi : SlR w0 v2 1 info.length (info.map byteV)) (hil : info.length ≤ 140737488355328) : Fn P 10 [.agg (key.map byteV).toArray, .agg (List.toArray [.int .i64 x1, .int .i64 x2]), v2] w0 [] (fun v _ => v = .bool true) := by
  obtain ⟨ia, ic, rfl⟩ := hi.form
  refine Fn.of 90 [.tmp 6] Go.Proofs.Try.func10 rfl rfl rfl rfl ?_
  refine T.seq ?_
  refine T.region ?_
  refine TL.cons rfl (T1.boxN (vs := key.map byteV) 32 rfl (by rw [List.length_map]; exact hkl) (fun b3 => ?_))
  refine TL.cons rfl (T1.boxN (vs := [.int .i64 x1, .int .i64 x2]) 2 rfl rfl (fun b4 => ?_))
  refine TL.cons rfl (V1.t (V1.assign' (by (conv => lhs; whnf) <;> rfl)) ?_)
  refine TL.nil ?_
  refine T.seq ?_
  refine T.seq ?_
  refine T.region ?_
  refine TL.cons rfl (T1.call0 has_24 rfl (fun w hs => known_any w) (fun v hv => ?_))
  subst hv
  refine TL.cons rfl (V1.t (V1.not rfl rfl) ?_)
  refine TL.nil ?_
  refine T.cond_f rfl ?_
  refine T.skip ?_
  refine T.seq ?_
  refine T.region ?_
  refine TL.cons rfl (V1.t (V1.loadN one_26 sz_26 rfl (RdN.whole (cells := key.map byteV) (by repeat (first | exact Find.here | assumption | apply Find.there | apply Find.far))) (by rw [List.length_map]; exact hkl)) ?_)
  refine TL.cons rfl (V1.t (V1.indexAddrA ty_61 sz_3 rfl rfl (by decide) (by decide)) ?_)
  refine TL.cons rfl (V1.t (V1.load1 one_3 rfl (.own (by repeat (first | exact Find.here | assumption | apply Find.there | apply Find.far)) (by rfl))) ?_)
  refine TL.cons rfl (V1.t (V1.move' (by (conv => lhs; whnf) <;> rfl)) ?_)
  refine TL.cons rfl (T1.buildSl1 (os := [.tmp 18]) (vs := [.slice ia info.length ic]) ty_44 sz_22 zr_22 (by decide) rfl (.cons (by (conv => lhs; whnf) <;> rfl) .nil) rfl (ones rfl) (fun b19 => ?_))
  refine TL.cons rfl (T1.callX (X := ([⟨b19, 0, [.slice ia info.length ic], 1⟩] : List Blk)) has_33 rfl (Expand_any _ _ key info x1 [info] ([⟨b19, 0, [.slice ia info.length ic], 1⟩] : List Blk) hkl (by simp) (PartsR.ones (svs := [.slice ia info.length ic]) (size := 1) (by simp) rfl (one_part (PartR.old hi))) (one_len (by omega)) (show 1 < 9223372036854775807 by decide) (by omega)) (by repeat (first | exact Take.nil | apply Take.one (by repeat (first | exact Pick.here | apply Pick.there | apply Pick.far)) | apply Take.seg (by repeat (first | exact PickS.last | exact PickS.one | exact PickS.here | exact PickS.nil | apply PickS.there | apply PickS.far)) | exact Take.last (by repeat (first | exact PickS.last | exact PickS.one | exact PickS.here | exact PickS.nil | apply PickS.there | apply PickS.far)))) (fun v Y hY => ?_))
  rcases hY with ⟨hbadA, rfl, rfl⟩ | ⟨nA, soA, LsA, hnnA, hn8A, rfl, hsoA, rfl⟩
  ·
    simp only [List.cons_append, List.nil_append]
    refine TL.cons rfl (V1.t (V1.move' (by (conv => lhs; whnf) <;> rfl)) ?_)
    refine TL.cons rfl (V1.t (V1.extract rfl (by rfl)) ?_)
    refine TL.cons rfl (V1.t (V1.extract rfl (by rfl)) ?_)
    refine TL.cons rfl (V1.t (V1.assign' (by (conv => lhs; whnf) <;> rfl)) ?_)
    refine TL.cons rfl (V1.t (V1.assign' (by (conv => lhs; whnf) <;> rfl)) ?_)
    refine TL.nil ?_
    refine T.seq ?_
    refine T.live (l := [(2, _), (3, _), (4, _), (7, _), (8, _)]) (.cons (by (conv => lhs; whnf) <;> rfl) (.cons (by (conv => lhs; whnf) <;> rfl) (.cons (by (conv => lhs; whnf) <;> rfl) (.cons (by (conv => lhs; whnf) <;> rfl) (.cons (by (conv => lhs; whnf) <;> rfl) .nil))))) (fun e_ => ?_)
    refine T.region ?_
    refine TL.cons rfl (V1.t (V1.loadN one_26 sz_26 rfl (RdN.whole (cells := key.map byteV) (by repeat (first | exact Find.here | assumption | apply Find.there | apply Find.far))) (by rw [List.length_map]; exact hkl)) ?_)
    refine TL.cons rfl (V1.t (V1.indexAddrA ty_61 sz_3 rfl rfl (by decide) (by decide)) ?_)
    refine TL.cons rfl (V1.t (V1.load1 one_3 rfl (.own (by repeat (first | exact Find.here | assumption | apply Find.there | apply Find.far)) (by rfl))) ?_)
    refine TL.cons rfl (V1.t (V1.move' (by (conv => lhs; whnf) <;> rfl)) ?_)
    refine TL.cons rfl (T1.buildSl1 (os := [.tmp 27]) (vs := [.slice ia info.length ic]) ty_44 sz_22 zr_22 (by decide) rfl (.cons (by (conv => lhs; whnf) <;> rfl) .nil) rfl (ones rfl) (fun b28 => ?_))
    refine TL.cons rfl (T1.callX (X := ([⟨b28, 0, [.slice ia info.length ic], 1⟩] : List Blk)) has_33 rfl (Expand_any _ _ key info x2 [info] ([⟨b28, 0, [.slice ia info.length ic], 1⟩] : List Blk) hkl (by simp) (PartsR.ones (svs := [.slice ia info.length ic]) (size := 1) (by simp) rfl (one_part (PartR.old hi))) (one_len (by omega)) (show 1 < 9223372036854775807 by decide) (by omega)) (by repeat (first | exact Take.nil | apply Take.one (by repeat (first | exact Pick.here | apply Pick.there | apply Pick.far)) | apply Take.seg (by repeat (first | exact PickS.last | exact PickS.one | exact PickS.here | exact PickS.nil | apply PickS.there | apply PickS.far)) | exact Take.last (by repeat (first | exact PickS.last | exact PickS.one | exact PickS.here | exact PickS.nil | apply PickS.there | apply PickS.far)))) (fun v Y hY => ?_))
    rcases hY with ⟨hbadB, rfl, rfl⟩ | ⟨nB, soB, LsB, hnnB, hn8B, rfl, hsoB, rfl⟩
    ·
      simp only [List.cons_append, List.nil_append]
      refine TL.cons rfl (V1.t (V1.move' (by (conv => lhs; whnf) <;> rfl)) ?_)
      refine TL.cons rfl (V1.t (V1.extract rfl (by rfl)) ?_)
      refine TL.cons rfl (V1.t (V1.extract rfl (by rfl)) ?_)
      refine TL.cons rfl (V1.t (V1.assign' (by (conv => lhs; whnf) <;> rfl)) ?_)
      refine TL.cons rfl (V1.t (V1.assign' (by (conv => lhs; whnf) <;> rfl)) ?_)
      refine TL.nil ?_
      refine T.seq ?_
      refine T.seq ?_
      refine T.region ?_
      refine TL.cons rfl (V1.t (V1.move' (by (conv => lhs; whnf) <;> rfl)) ?_)
      refine TL.cons rfl (V1.t (V1.neI rfl rfl (decide_eq_true (by omega))) ?_)
      refine TL.cons rfl (V1.t (V1.move' (by (conv => lhs; whnf) <;> rfl)) ?_)
      refine TL.no rfl ?_
      refine TL.no rfl ?_
      refine TL.cons rfl (V1.t (V1.pick rfl (by (conv => lhs; whnf) <;> rfl)) ?_)
      refine TL.nil ?_
      refine T.cond_t rfl ?_
      refine T.seq ?_
      refine T.live (l := [(4, _), (8, _), (10, _)]) (.cons (by (conv => lhs; whnf) <;> rfl) (.cons (by (conv => lhs; whnf) <;> rfl) (.cons (by (conv => lhs; whnf) <;> rfl) .nil))) (fun e_ => ?_)
      refine T.region ?_
      refine TL.cons rfl (V1.t (V1.indexAddrA ty_61 sz_3 rfl rfl (by decide) (by decide)) ?_)
      refine TL.cons rfl (V1.t (V1.load1 one_3 rfl (.own (by repeat (first | exact Find.here | assumption | apply Find.there | apply Find.far)) (by rfl))) ?_)
      refine TL.cons rfl (T1.ltI_split rfl rfl (fun h6_2 => ?_) (fun h6_2 => ?_))
      ·
        refine TL.cons rfl (V1.t (V1.move' (by (conv => lhs; whnf) <;> rfl)) ?_)
        refine TL.no rfl ?_
        refine TL.no rfl ?_
        refine TL.no rfl ?_
        refine TL.cons rfl (V1.t (V1.pick rfl (by (conv => lhs; whnf) <;> rfl)) ?_)
        refine TL.cons rfl (V1.t (V1.move' (by (conv => lhs; whnf) <;> rfl)) ?_)
        refine TL.cons rfl (V1.t (V1.eqI rfl rfl (decide_eq_true (by omega))) ?_)
        refine TL.cons rfl (V1.t (V1.eqB ty_4 rfl rfl rfl) ?_)
        refine TL.cons rfl (V1.t (V1.move' (by (conv => lhs; whnf) <;> rfl)) ?_)
        refine TL.cons rfl (V1.t (V1.indexAddrA ty_61 sz_3 rfl rfl (by decide) (by decide)) ?_)
        refine TL.cons rfl (V1.t (V1.load1 one_3 rfl (.own (by repeat (first | exact Find.here | assumption | apply Find.there | apply Find.far)) (by rfl))) ?_)
        refine TL.cons rfl (T1.ltI_split rfl rfl (fun h6_14 => ?_) (fun h6_14 => ?_))
        ·
          refine TL.cons rfl (V1.t (V1.move' (by (conv => lhs; whnf) <;> rfl)) ?_)
          refine TL.no rfl ?_
          refine TL.no rfl ?_
          refine TL.no rfl ?_
          refine TL.cons rfl (V1.t (V1.pick rfl (by (conv => lhs; whnf) <;> rfl)) ?_)
          refine TL.cons rfl (V1.t (V1.move' (by (conv => lhs; whnf) <;> rfl)) ?_)
          refine TL.cons rfl (V1.t (V1.eqI rfl rfl (decide_eq_true (by omega))) ?_)
          refine TL.cons rfl (V1.t (V1.eqB ty_4 rfl rfl rfl) ?_)
          refine TL.cons rfl (V1.t (V1.pick rfl (by (conv => lhs; whnf) <;> rfl)) ?_)
          refine TL.cons rfl (V1.t (V1.assign' (by (conv => lhs; whnf) <;> rfl)) ?_)
          refine TL.nil ?_
          refine T.ret ?_
          exact ⟨_, [], _, .cons (.tmp (by (conv => lhs; whnf) <;> rfl)) .nil, Take.nil, rfl⟩
        ·
          refine TL.cons rfl (V1.t (V1.move' (by (conv => lhs; whnf) <;> rfl)) ?_)
          refine TL.cons rfl (V1.t (V1.indexAddrA ty_61 sz_3 rfl rfl (by decide) (by decide)) ?_)
          refine TL.cons rfl (V1.t (V1.load1 one_3 rfl (.own (by repeat (first | exact Find.here | assumption | apply Find.there | apply Find.far)) (by rfl))) ?_)
          refine TL.cons rfl (V1.t (V1.gtI rfl rfl (decide_eq_true (by omega))) ?_)
          refine TL.cons rfl (V1.t (V1.pick rfl (by (conv => lhs; whnf) <;> rfl)) ?_)
          refine TL.cons rfl (V1.t (V1.move' (by (conv => lhs; whnf) <;> rfl)) ?_)
          refine TL.cons rfl (V1.t (V1.eqI rfl rfl (decide_eq_true (by omega))) ?_)
          refine TL.cons rfl (V1.t (V1.eqB ty_4 rfl rfl rfl) ?_)
          refine TL.cons rfl (V1.t (V1.pick rfl (by (conv => lhs; whnf) <;> rfl)) ?_)
          refine TL.cons rfl (V1.t (V1.assign' (by (conv => lhs; whnf) <;> rfl)) ?_)
          refine TL.nil ?_
          refine T.ret ?_
          exact ⟨_, [], _, .cons (.tmp (by (conv => lhs; whnf) <;> rfl)) .nil, Take.nil, rfl⟩
      ·
        refine TL.cons rfl (V1.t (V1.move' (by (conv => lhs; whnf) <;> rfl)) ?_)
        refine TL.cons rfl (V1.t (V1.indexAddrA ty_61 sz_3 rfl rfl (by decide) (by decide)) ?_)
        refine TL.cons rfl (V1.t (V1.load1 one_3 rfl (.own (by repeat (first | exact Find.here | assumption | apply Find.there | apply Find.far)) (by rfl))) ?_)
        refine TL.cons rfl (V1.t (V1.gtI rfl rfl (decide_eq_true (by omega))) ?_)
        refine TL.cons rfl (V1.t (V1.pick rfl (by (conv => lhs; whnf) <;> rfl)) ?_)
        refine TL.cons rfl (V1.t (V1.move' (by (conv => lhs; whnf) <;> rfl)) ?_)
        refine TL.cons rfl (V1.t (V1.eqI rfl rfl (decide_eq_true (by omega))) ?_)
        refine TL.cons rfl (V1.t (V1.eqB ty_4 rfl rfl rfl) ?_)
        refine TL.cons rfl (V1.t (V1.move' (by (conv => lhs; whnf) <;> rfl)) ?_)
        refine TL.cons rfl (V1.t (V1.indexAddrA ty_61 sz_3 rfl rfl (by decide) (by decide)) ?_)
        refine TL.cons rfl (V1.t (V1.load1 one_3 rfl (.own (by repeat (first | exact Find.here | assumption | apply Find.there | apply Find.far)) (by rfl))) ?_)
        refine TL.cons rfl (T1.ltI_split rfl rfl (fun h6_14 => ?_) (fun h6_14 => ?_))
        ·
          refine TL.cons rfl (V1.t (V1.move' (by (conv => lhs; whnf) <;> rfl)) ?_)
          refine TL.no rfl ?_
          refine TL.no rfl ?_
          refine TL.no rfl ?_
          refine TL.cons rfl (V1.t (V1.pick rfl (by (conv => lhs; whnf) <;> rfl)) ?_)
          refine TL.cons rfl (V1.t (V1.move' (by (conv => lhs; whnf) <;> rfl)) ?_)
          refine TL.cons rfl (V1.t (V1.eqI rfl rfl (decide_eq_true (by omega))) ?_)
          refine TL.cons rfl (V1.t (V1.eqB ty_4 rfl rfl rfl) ?_)
          refine TL.cons rfl (V1.t (V1.pick rfl (by (conv => lhs; whnf) <;> rfl)) ?_)
          refine TL.cons rfl (V1.t (V1.assign' (by (conv => lhs; whnf) <;> rfl)) ?_)
          refine TL.nil ?_
          refine T.ret ?_
          exact ⟨_, [], _, .cons (.tmp (by (conv => lhs; whnf) <;> rfl)) .nil, Take.nil, rfl⟩
        ·
          refine TL.cons rfl (V1.t (V1.move' (by (conv => lhs; whnf) <;> rfl)) ?_)
          refine TL.cons rfl (V1.t (V1.indexAddrA ty_61 sz_3 rfl rfl (by decide) (by decide)) ?_)
          refine TL.cons rfl (V1.t (V1.load1 one_3 rfl (.own (by repeat (first | exact Find.here | assumption | apply Find.there | apply Find.far)) (by rfl))) ?_)
          refine TL.cons rfl (V1.t (V1.gtI rfl rfl (decide_eq_true (by omega))) ?_)
          refine TL.cons rfl (V1.t (V1.pick rfl (by (conv => lhs; whnf) <;> rfl)) ?_)
          refine TL.cons rfl (V1.t (V1.move' (by (conv => lhs; whnf) <;> rfl)) ?_)
          refine TL.cons rfl (V1.t (V1.eqI rfl rfl (decide_eq_true (by omega))) ?_)
          refine TL.cons rfl (V1.t (V1.eqB ty_4 rfl rfl rfl) ?_)
          refine TL.cons rfl (V1.t (V1.pick rfl (by (conv => lhs; whnf) <;> rfl)) ?_)
          refine TL.cons rfl (V1.t (V1.assign' (by (conv => lhs; whnf) <;> rfl)) ?_)
          refine TL.nil ?_
          refine T.ret ?_
          exact ⟨_, [], _, .cons (.tmp (by (conv => lhs; whnf) <;> rfl)) .nil, Take.nil, rfl⟩
    ·
      simp only [List.cons_append, List.nil_append, List.append_assoc]
      obtain ⟨saB, scB, rfl⟩ := hsoB.form1
      rw [expB_len]
      rw [expB_len] at hsoB
      refine TL.cons rfl (V1.t (V1.move' (by (conv => lhs; whnf) <;> rfl)) ?_)
      refine TL.cons rfl (V1.t (V1.extract rfl (by rfl)) ?_)
      refine TL.cons rfl (V1.t (V1.extract rfl (by rfl)) ?_)
      refine TL.cons rfl (V1.t (V1.assign' (by (conv => lhs; whnf) <;> rfl)) ?_)
      refine TL.cons rfl (V1.t (V1.assign' (by (conv => lhs; whnf) <;> rfl)) ?_)
      refine TL.nil ?_
      refine T.seq ?_
      refine T.seq ?_
      refine T.region ?_
      refine TL.cons rfl (V1.t (V1.move' (by (conv => lhs; whnf) <;> rfl)) ?_)
      refine TL.cons rfl (V1.t (V1.neI rfl rfl (decide_eq_true (by omega))) ?_)
      refine TL.cons rfl (V1.t (V1.move' (by (conv => lhs; whnf) <;> rfl)) ?_)
      refine TL.no rfl ?_
      refine TL.no rfl ?_
      refine TL.cons rfl (V1.t (V1.pick rfl (by (conv => lhs; whnf) <;> rfl)) ?_)
      refine TL.nil ?_
      refine T.cond_t rfl ?_
      refine T.seq ?_
      refine T.live (l := [(4, _), (8, _), (10, _)]) (.cons (by (conv => lhs; whnf) <;> rfl) (.cons (by (conv => lhs; whnf) <;> rfl) (.cons (by (conv => lhs; whnf) <;> rfl) .nil))) (fun e_ => ?_)
      refine T.region ?_
      refine TL.cons rfl (V1.t (V1.indexAddrA ty_61 sz_3 rfl rfl (by decide) (by decide)) ?_)
      refine TL.cons rfl (V1.t (V1.load1 one_3 rfl (.own (by repeat (first | exact Find.here | assumption | apply Find.there | apply Find.far)) (by rfl))) ?_)
      refine TL.cons rfl (T1.ltI_split rfl rfl (fun h6_2 => ?_) (fun h6_2 => ?_))
      ·
        refine TL.cons rfl (V1.t (V1.move' (by (conv => lhs; whnf) <;> rfl)) ?_)
        refine TL.no rfl ?_
        refine TL.no rfl ?_
        refine TL.no rfl ?_
        refine TL.cons rfl (V1.t (V1.pick rfl (by (conv => lhs; whnf) <;> rfl)) ?_)
        refine TL.cons rfl (V1.t (V1.move' (by (conv => lhs; whnf) <;> rfl)) ?_)
        refine TL.cons rfl (V1.t (V1.eqI rfl rfl (decide_eq_true (by omega))) ?_)
        refine TL.cons rfl (V1.t (V1.eqB ty_4 rfl rfl rfl) ?_)
        refine TL.cons rfl (V1.t (V1.move' (by (conv => lhs; whnf) <;> rfl)) ?_)
        refine TL.cons rfl (V1.t (V1.indexAddrA ty_61 sz_3 rfl rfl (by decide) (by decide)) ?_)
        refine TL.cons rfl (V1.t (V1.load1 one_3 rfl (.own (by repeat (first | exact Find.here | assumption | apply Find.there | apply Find.far)) (by rfl))) ?_)
        refine TL.cons rfl (V1.t (V1.ltI rfl rfl (decide_eq_false (by omega))) ?_)
        refine TL.cons rfl (V1.t (V1.move' (by (conv => lhs; whnf) <;> rfl)) ?_)
        refine TL.cons rfl (V1.t (V1.indexAddrA ty_61 sz_3 rfl rfl (by decide) (by decide)) ?_)
        refine TL.cons rfl (V1.t (V1.load1 one_3 rfl (.own (by repeat (first | exact Find.here | assumption | apply Find.there | apply Find.far)) (by rfl))) ?_)
        refine TL.cons rfl (V1.t (V1.gtI rfl rfl (decide_eq_false (by omega))) ?_)
        refine TL.cons rfl (V1.t (V1.pick rfl (by (conv => lhs; whnf) <;> rfl)) ?_)
        refine TL.cons rfl (V1.t (V1.move' (by (conv => lhs; whnf) <;> rfl)) ?_)
        refine TL.cons rfl (V1.t (V1.eqI rfl rfl (decide_eq_false (by omega))) ?_)
        refine TL.cons rfl (V1.t (V1.eqB ty_4 rfl rfl rfl) ?_)
        refine TL.cons rfl (V1.t (V1.pick rfl (by (conv => lhs; whnf) <;> rfl)) ?_)
        refine TL.cons rfl (V1.t (V1.assign' (by (conv => lhs; whnf) <;> rfl)) ?_)
        refine TL.nil ?_
        refine T.ret ?_
        exact ⟨_, [], _, .cons (.tmp (by (conv => lhs; whnf) <;> rfl)) .nil, Take.nil, rfl⟩
      ·
        refine TL.cons rfl (V1.t (V1.move' (by (conv => lhs; whnf) <;> rfl)) ?_)
        refine TL.cons rfl (V1.t (V1.indexAddrA ty_61 sz_3 rfl rfl (by decide) (by decide)) ?_)
        refine TL.cons rfl (V1.t (V1.load1 one_3 rfl (.own (by repeat (first | exact Find.here | assumption | apply Find.there | apply Find.far)) (by rfl))) ?_)
        refine TL.cons rfl (V1.t (V1.gtI rfl rfl (decide_eq_true (by omega))) ?_)
        refine TL.cons rfl (V1.t (V1.pick rfl (by (conv => lhs; whnf) <;> rfl)) ?_)
        refine TL.cons rfl (V1.t (V1.move' (by (conv => lhs; whnf) <;> rfl)) ?_)
        refine TL.cons rfl (V1.t (V1.eqI rfl rfl (decide_eq_true (by omega))) ?_)
        refine TL.cons rfl (V1.t (V1.eqB ty_4 rfl rfl rfl) ?_)
        refine TL.cons rfl (V1.t (V1.move' (by (conv => lhs; whnf) <;> rfl)) ?_)
        refine TL.cons rfl (V1.t (V1.indexAddrA ty_61 sz_3 rfl rfl (by decide) (by decide)) ?_)
        refine TL.cons rfl (V1.t (V1.load1 one_3 rfl (.own (by repeat (first | exact Find.here | assumption | apply Find.there | apply Find.far)) (by rfl))) ?_)
        refine TL.cons rfl (V1.t (V1.ltI rfl rfl (decide_eq_false (by omega))) ?_)
        refine TL.cons rfl (V1.t (V1.move' (by (conv => lhs; whnf) <;> rfl)) ?_)
        refine TL.cons rfl (V1.t (V1.indexAddrA ty_61 sz_3 rfl rfl (by decide) (by decide)) ?_)
        refine TL.cons rfl (V1.t (V1.load1 one_3 rfl (.own (by repeat (first | exact Find.here | assumption | apply Find.there | apply Find.far)) (by rfl))) ?_)
        refine TL.cons rfl (V1.t (V1.gtI rfl rfl (decide_eq_false (by omega))) ?_)
        refine TL.cons rfl (V1.t (V1.pick rfl (by (conv => lhs; whnf) <;> rfl)) ?_)
        refine TL.cons rfl (V1.t (V1.move' (by (conv => lhs; whnf) <;> rfl)) ?_)
        refine TL.cons rfl (V1.t (V1.eqI rfl rfl (decide_eq_false (by omega))) ?_)
        refine TL.cons rfl (V1.t (V1.eqB ty_4 rfl rfl rfl) ?_)
        refine TL.cons rfl (V1.t (V1.pick rfl (by (conv => lhs; whnf) <;> rfl)) ?_)
        refine TL.cons rfl (V1.t (V1.assign' (by (conv => lhs; whnf) <;> rfl)) ?_)
        refine TL.nil ?_
        refine T.ret ?_
        exact ⟨_, [], _, .cons (.tmp (by (conv => lhs; whnf) <;> rfl)) .nil, Take.nil, rfl⟩
  ·
    simp only [List.cons_append, List.nil_append, List.append_assoc]
    obtain ⟨saA, scA, rfl⟩ := hsoA.form1
    rw [expB_len]
    rw [expB_len] at hsoA
    refine TL.cons rfl (V1.t (V1.move' (by (conv => lhs; whnf) <;> rfl)) ?_)
    refine TL.cons rfl (V1.t (V1.extract rfl (by rfl)) ?_)
    refine TL.cons rfl (V1.t (V1.extract rfl (by rfl)) ?_)
    refine TL.cons rfl (V1.t (V1.assign' (by (conv => lhs; whnf) <;> rfl)) ?_)
    refine TL.cons rfl (V1.t (V1.assign' (by (conv => lhs; whnf) <;> rfl)) ?_)
    refine TL.nil ?_
    refine T.seq ?_
    refine T.live (l := [(2, _), (3, _), (4, _), (7, _), (8, _)]) (.cons (by (conv => lhs; whnf) <;> rfl) (.cons (by (conv => lhs; whnf) <;> rfl) (.cons (by (conv => lhs; whnf) <;> rfl) (.cons (by (conv => lhs; whnf) <;> rfl) (.cons (by (conv => lhs; whnf) <;> rfl) .nil))))) (fun e_ => ?_)
    refine T.region ?_
    refine TL.cons rfl (V1.t (V1.loadN one_26 sz_26 rfl (RdN.whole (cells := key.map byteV) (by repeat (first | exact Find.here | assumption | apply Find.there | apply Find.far))) (by rw [List.length_map]; exact hkl)) ?_)
    refine TL.cons rfl (V1.t (V1.indexAddrA ty_61 sz_3 rfl rfl (by decide) (by decide)) ?_)
    refine TL.cons rfl (V1.t (V1.load1 one_3 rfl (.own (by repeat (first | exact Find.here | assumption | apply Find.there | apply Find.far)) (by rfl))) ?_)
    refine TL.cons rfl (V1.t (V1.move' (by (conv => lhs; whnf) <;> rfl)) ?_)
    refine TL.cons rfl (T1.buildSl1 (os := [.tmp 27]) (vs := [.slice ia info.length ic]) ty_44 sz_22 zr_22 (by decide) rfl (.cons (by (conv => lhs; whnf) <;> rfl) .nil) rfl (ones rfl) (fun b28 => ?_))
    refine TL.cons rfl (T1.callX (X := ([⟨b28, 0, [.slice ia info.length ic], 1⟩] : List Blk)) has_33 rfl (Expand_any _ _ key info x2 [info] ([⟨b28, 0, [.slice ia info.length ic], 1⟩] : List Blk) hkl (by simp) (PartsR.ones (svs := [.slice ia info.length ic]) (size := 1) (by simp) rfl (one_part (PartR.old hi))) (one_len (by omega)) (show 1 < 9223372036854775807 by decide) (by omega)) (by repeat (first | exact Take.nil | apply Take.one (by repeat (first | exact Pick.here | apply Pick.there | apply Pick.far)) | apply Take.seg (by repeat (first | exact PickS.last | exact PickS.one | exact PickS.here | exact PickS.nil | apply PickS.there | apply PickS.far)) | exact Take.last (by repeat (first | exact PickS.last | exact PickS.one | exact PickS.here | exact PickS.nil | apply PickS.there | apply PickS.far)))) (fun v Y hY => ?_))
    rcases hY with ⟨hbadB, rfl, rfl⟩ | ⟨nB, soB, LsB, hnnB, hn8B, rfl, hsoB, rfl⟩
    ·
      simp only [List.cons_append, List.nil_append]
      refine TL.cons rfl (V1.t (V1.move' (by (conv => lhs; whnf) <;> rfl)) ?_)
      refine TL.cons rfl (V1.t (V1.extract rfl (by rfl)) ?_)
      refine TL.cons rfl (V1.t (V1.extract rfl (by rfl)) ?_)
      refine TL.cons rfl (V1.t (V1.assign' (by (conv => lhs; whnf) <;> rfl)) ?_)
      refine TL.cons rfl (V1.t (V1.assign' (by (conv => lhs; whnf) <;> rfl)) ?_)
      refine TL.nil ?_
      refine T.seq ?_
      refine T.seq ?_
      refine T.region ?_
      refine TL.cons rfl (V1.t (V1.move' (by (conv => lhs; whnf) <;> rfl)) ?_)
      refine TL.cons rfl (V1.t (V1.neI rfl rfl (decide_eq_false (by omega))) ?_)
      refine TL.cons rfl (V1.t (V1.move' (by (conv => lhs; whnf) <;> rfl)) ?_)
      refine TL.cons rfl (V1.t (V1.move' (by (conv => lhs; whnf) <;> rfl)) ?_)
      refine TL.cons rfl (V1.t (V1.neI rfl rfl (decide_eq_true (by omega))) ?_)
      refine TL.cons rfl (V1.t (V1.pick rfl (by (conv => lhs; whnf) <;> rfl)) ?_)
      refine TL.nil ?_
      refine T.cond_t rfl ?_
      refine T.seq ?_
      refine T.live (l := [(4, _), (8, _), (10, _)]) (.cons (by (conv => lhs; whnf) <;> rfl) (.cons (by (conv => lhs; whnf) <;> rfl) (.cons (by (conv => lhs; whnf) <;> rfl) .nil))) (fun e_ => ?_)
      refine T.region ?_
      refine TL.cons rfl (V1.t (V1.indexAddrA ty_61 sz_3 rfl rfl (by decide) (by decide)) ?_)
      refine TL.cons rfl (V1.t (V1.load1 one_3 rfl (.own (by repeat (first | exact Find.here | assumption | apply Find.there | apply Find.far)) (by rfl))) ?_)
      refine TL.cons rfl (V1.t (V1.ltI rfl rfl (decide_eq_false (by omega))) ?_)
      refine TL.cons rfl (V1.t (V1.move' (by (conv => lhs; whnf) <;> rfl)) ?_)
      refine TL.cons rfl (V1.t (V1.indexAddrA ty_61 sz_3 rfl rfl (by decide) (by decide)) ?_)
      refine TL.cons rfl (V1.t (V1.load1 one_3 rfl (.own (by repeat (first | exact Find.here | assumption | apply Find.there | apply Find.far)) (by rfl))) ?_)
      refine TL.cons rfl (V1.t (V1.gtI rfl rfl (decide_eq_false (by omega))) ?_)
      refine TL.cons rfl (V1.t (V1.pick rfl (by (conv => lhs; whnf) <;> rfl)) ?_)
      refine TL.cons rfl (V1.t (V1.move' (by (conv => lhs; whnf) <;> rfl)) ?_)
      refine TL.cons rfl (V1.t (V1.eqI rfl rfl (decide_eq_false (by omega))) ?_)
      refine TL.cons rfl (V1.t (V1.eqB ty_4 rfl rfl rfl) ?_)
      refine TL.cons rfl (V1.t (V1.move' (by (conv => lhs; whnf) <;> rfl)) ?_)
      refine TL.cons rfl (V1.t (V1.indexAddrA ty_61 sz_3 rfl rfl (by decide) (by decide)) ?_)
      refine TL.cons rfl (V1.t (V1.load1 one_3 rfl (.own (by repeat (first | exact Find.here | assumption | apply Find.there | apply Find.far)) (by rfl))) ?_)
      refine TL.cons rfl (T1.ltI_split rfl rfl (fun h6_14 => ?_) (fun h6_14 => ?_))
      ·
        refine TL.cons rfl (V1.t (V1.move' (by (conv => lhs; whnf) <;> rfl)) ?_)
        refine TL.no rfl ?_
        refine TL.no rfl ?_
        refine TL.no rfl ?_
        refine TL.cons rfl (V1.t (V1.pick rfl (by (conv => lhs; whnf) <;> rfl)) ?_)
        refine TL.cons rfl (V1.t (V1.move' (by (conv => lhs; whnf) <;> rfl)) ?_)
        refine TL.cons rfl (V1.t (V1.eqI rfl rfl (decide_eq_true (by omega))) ?_)
        refine TL.cons rfl (V1.t (V1.eqB ty_4 rfl rfl rfl) ?_)
        refine TL.cons rfl (V1.t (V1.pick rfl (by (conv => lhs; whnf) <;> rfl)) ?_)
        refine TL.cons rfl (V1.t (V1.assign' (by (conv => lhs; whnf) <;> rfl)) ?_)
        refine TL.nil ?_
        refine T.ret ?_
        exact ⟨_, [], _, .cons (.tmp (by (conv => lhs; whnf) <;> rfl)) .nil, Take.nil, rfl⟩
      ·
        refine TL.cons rfl (V1.t (V1.move' (by (conv => lhs; whnf) <;> rfl)) ?_)
        refine TL.cons rfl (V1.t (V1.indexAddrA ty_61 sz_3 rfl rfl (by decide) (by decide)) ?_)
        refine TL.cons rfl (V1.t (V1.load1 one_3 rfl (.own (by repeat (first | exact Find.here | assumption | apply Find.there | apply Find.far)) (by rfl))) ?_)
        refine TL.cons rfl (V1.t (V1.gtI rfl rfl (decide_eq_true (by omega))) ?_)
        refine TL.cons rfl (V1.t (V1.pick rfl (by (conv => lhs; whnf) <;> rfl)) ?_)
        refine TL.cons rfl (V1.t (V1.move' (by (conv => lhs; whnf) <;> rfl)) ?_)
        refine TL.cons rfl (V1.t (V1.eqI rfl rfl (decide_eq_true (by omega))) ?_)
        refine TL.cons rfl (V1.t (V1.eqB ty_4 rfl rfl rfl) ?_)
        refine TL.cons rfl (V1.t (V1.pick rfl (by (conv => lhs; whnf) <;> rfl)) ?_)
        refine TL.cons rfl (V1.t (V1.assign' (by (conv => lhs; whnf) <;> rfl)) ?_)
        refine TL.nil ?_
        refine T.ret ?_
        exact ⟨_, [], _, .cons (.tmp (by (conv => lhs; whnf) <;> rfl)) .nil, Take.nil, rfl⟩
    ·
      simp only [List.cons_append, List.nil_append, List.append_assoc]
      obtain ⟨saB, scB, rfl⟩ := hsoB.form1
      rw [expB_len]
      rw [expB_len] at hsoB
      refine TL.cons rfl (V1.t (V1.move' (by (conv => lhs; whnf) <;> rfl)) ?_)
      refine TL.cons rfl (V1.t (V1.extract rfl (by rfl)) ?_)
      refine TL.cons rfl (V1.t (V1.extract rfl (by rfl)) ?_)
      refine TL.cons rfl (V1.t (V1.assign' (by (conv => lhs; whnf) <;> rfl)) ?_)
      refine TL.cons rfl (V1.t (V1.assign' (by (conv => lhs; whnf) <;> rfl)) ?_)
      refine TL.nil ?_
      refine T.seq ?_
      refine T.seq ?_
      refine T.region ?_
      refine TL.cons rfl (V1.t (V1.move' (by (conv => lhs; whnf) <;> rfl)) ?_)
      refine TL.cons rfl (V1.t (V1.neI rfl rfl (decide_eq_false (by omega))) ?_)
      refine TL.cons rfl (V1.t (V1.move' (by (conv => lhs; whnf) <;> rfl)) ?_)
      refine TL.cons rfl (V1.t (V1.move' (by (conv => lhs; whnf) <;> rfl)) ?_)
      refine TL.cons rfl (V1.t (V1.neI rfl rfl (decide_eq_false (by omega))) ?_)
      refine TL.cons rfl (V1.t (V1.pick rfl (by (conv => lhs; whnf) <;> rfl)) ?_)
      refine TL.nil ?_
      refine T.cond_f rfl ?_
      refine T.skip ?_
      refine T.seq ?_
      refine T.live (l := [(4, _), (7, _), (9, _)]) (.cons (by (conv => lhs; whnf) <;> rfl) (.cons (by (conv => lhs; whnf) <;> rfl) (.cons (by (conv => lhs; whnf) <;> rfl) .nil))) (fun e_ => ?_)
      refine T.region ?_
      refine TL.cons rfl (V1.t (V1.move' (by (conv => lhs; whnf) <;> rfl)) ?_)
      refine TL.cons rfl (V1.t (V1.lenSl ty_22 rfl) ?_)
      refine TL.cons rfl (V1.t (V1.move' (by (conv => lhs; whnf) <;> rfl)) ?_)
      refine TL.cons rfl (V1.t (V1.lenSl ty_22 rfl) ?_)
      refine TL.cons rfl (V1.t (V1.min2 (c := ((min nA nB : Nat) : Int)) rfl rfl (by omega)) ?_)
      refine TL.cons rfl (V1.t (V1.assign' (by (conv => lhs; whnf) <;> rfl)) ?_)
      refine TL.nil ?_
      refine T.seq ?_
      refine T.drawDet' mixed (by decide +kernel) ?_
      refine Det.cons 0 (ins := [(7, _)]) (.old (by (conv => lhs; whnf) <;> rfl) (by decide +kernel) .nil) (fun e_ => .inl ⟨rfl, V1.t (V1.move' (by (conv => lhs; whnf) <;> rfl)) ⟨rfl, rfl⟩⟩) ?_
      refine Det.cons 1 (ins := [(67, _)]) (.new 0 0 (by decide +kernel) rfl rfl .nil) (fun e_ => .inl ⟨rfl, V1.t (V1.lenSl ty_22 rfl) ⟨rfl, rfl⟩⟩) ?_
      refine Det.cons 2 (ins := [(4, _)]) (.old (by (conv => lhs; whnf) <;> rfl) (by decide +kernel) .nil) (fun e_ => .inl ⟨rfl, V1.t (V1.indexAddrA ty_61 sz_3 rfl rfl (by decide) (by decide)) ⟨rfl, rfl⟩⟩) ?_
      refine Det.cons 3 (ins := [(69, _)]) (.new 2 0 (by decide +kernel) rfl rfl .nil) (fun e_ => .inl ⟨rfl, V1.t (V1.load1 one_3 rfl (.own (by repeat (first | exact Find.here | assumption | apply Find.there | apply Find.far)) (by rfl))) ⟨rfl, rfl⟩⟩) ?_
      refine Det.cons 4 (ins := [(68, _), (70, _)]) (.new 1 2 (by decide +kernel) rfl rfl (.new 3 0 (by decide +kernel) rfl rfl .nil)) (fun e_ => .inl ⟨rfl, V1.t (V1.eqI rfl rfl (decide_eq_true (by omega))) ⟨rfl, rfl⟩⟩) ?_
      refine Det.cons 5 (ins := [(71, _)]) (.new 4 0 (by decide +kernel) rfl rfl .nil) (fun e_ => .inl ⟨rfl, V1.t (V1.move' (by (conv => lhs; whnf) <;> rfl)) ⟨rfl, rfl⟩⟩) ?_
      refine Det.cons 6 (ins := [(9, _), (72, _)]) (.old (by (conv => lhs; whnf) <;> rfl) (by decide +kernel) (.new 5 0 (by decide +kernel) rfl rfl .nil)) (fun e_ => .inl ⟨rfl, V1.t (V1.move' (by (conv => lhs; whnf) <;> rfl)) ⟨rfl, rfl⟩⟩) ?_
      refine Det.cons 7 (ins := [(72, _), (73, _)]) (.new 5 1 (by decide +kernel) rfl rfl (.new 6 0 (by decide +kernel) rfl rfl .nil)) (fun e_ => .inl ⟨rfl, V1.t (V1.lenSl ty_22 rfl) ⟨rfl, rfl⟩⟩) ?_
      refine Det.cons 8 (ins := [(4, _), (72, _)]) (.old (by (conv => lhs; whnf) <;> rfl) (by decide +kernel) (.new 5 2 (by decide +kernel) rfl rfl .nil)) (fun e_ => .inl ⟨rfl, V1.t (V1.indexAddrA ty_61 sz_3 rfl rfl (by decide) (by decide)) ⟨rfl, rfl⟩⟩) ?_
      refine Det.cons 9 (ins := [(72, _), (75, _)]) (.new 5 3 (by decide +kernel) rfl rfl (.new 8 0 (by decide +kernel) rfl rfl .nil)) (fun e_ => .inl ⟨rfl, V1.t (V1.load1 one_3 rfl (.own (by repeat (first | exact Find.here | assumption | apply Find.there | apply Find.far)) (by rfl))) ⟨rfl, rfl⟩⟩) ?_
      refine Det.cons 10 (ins := [(72, _), (74, _), (76, _)]) (.new 5 4 (by decide +kernel) rfl rfl (.new 7 2 (by decide +kernel) rfl rfl (.new 9 0 (by decide +kernel) rfl rfl .nil))) (fun e_ => .inl ⟨rfl, V1.t (V1.eqI rfl rfl (decide_eq_true (by omega))) ⟨rfl, rfl⟩⟩) ?_
      refine Det.cons 11 (ins := [(72, _), (77, _)]) (.new 5 5 (by decide +kernel) rfl rfl (.new 10 0 (by decide +kernel) rfl rfl .nil)) (fun e_ => .inl ⟨rfl, V1.t (V1.pick rfl (by (conv => lhs; whnf) <;> rfl)) ⟨rfl, rfl⟩⟩) ?_
      refine Det.cons 12 (ins := [(78, _)]) (.new 11 0 (by decide +kernel) rfl rfl .nil) (fun e_ => .inl ⟨rfl, V1.t (V1.move' (by (conv => lhs; whnf) <;> rfl)) ⟨rfl, rfl⟩⟩) ?_
      refine Det.cons 13 (ins := [(7, _), (79, _)]) (.old (by (conv => lhs; whnf) <;> rfl) (by decide +kernel) (.new 12 0 (by decide +kernel) rfl rfl .nil)) (fun e_ => .inl ⟨rfl, V1.t (V1.move' (by (conv => lhs; whnf) <;> rfl)) ⟨rfl, rfl⟩⟩) ?_
      refine Det.cons 14 (ins := [(11, _), (79, _)]) (.old (by (conv => lhs; whnf) <;> rfl) (by decide +kernel) (.new 12 1 (by decide +kernel) rfl rfl .nil)) (fun e_ => .inl ⟨rfl, V1.t (V1.move' (by (conv => lhs; whnf) <;> rfl)) ⟨rfl, rfl⟩⟩) ?_
      refine Det.cons 15 (ins := [(79, _), (80, _), (81, _)]) (.new 12 2 (by decide +kernel) rfl rfl (.new 13 1 (by decide +kernel) rfl rfl (.new 14 0 (by decide +kernel) rfl rfl .nil))) (fun e_ => .inl ⟨rfl, V1.t (V1.slOwn ty_22 sz_5 hsoA rfl (min nA nB) rfl rfl (Nat.min_le_left _ _)) ⟨rfl, rfl⟩⟩) ?_
      refine Det.cons 16 (ins := [(79, _), (82, _)]) (.new 12 3 (by decide +kernel) rfl rfl (.new 15 0 (by decide +kernel) rfl rfl .nil)) (fun e_ => .inl ⟨rfl, V1.t (V1.bytesToStr (l := (expB key info nA).take (min nA nB)) ty_22 ty_5 ty_9 rfl (slV_own hsoA (by repeat (first | exact Sub.here | exact Sub.last | apply Sub.there | apply Sub.far)) (Nat.min_le_left _ _)) (slV_str _ _ _ _)) ⟨rfl, rfl⟩⟩) ?_
      refine Det.cons 17 (ins := [(9, _), (79, _)]) (.old (by (conv => lhs; whnf) <;> rfl) (by decide +kernel) (.new 12 4 (by decide +kernel) rfl rfl .nil)) (fun e_ => .inl ⟨rfl, V1.t (V1.move' (by (conv => lhs; whnf) <;> rfl)) ⟨rfl, rfl⟩⟩) ?_
      refine Det.cons 18 (ins := [(11, _), (79, _)]) (.old (by (conv => lhs; whnf) <;> rfl) (by decide +kernel) (.new 12 5 (by decide +kernel) rfl rfl .nil)) (fun e_ => .inl ⟨rfl, V1.t (V1.move' (by (conv => lhs; whnf) <;> rfl)) ⟨rfl, rfl⟩⟩) ?_
      refine Det.cons 19 (ins := [(79, _), (84, _), (85, _)]) (.new 12 6 (by decide +kernel) rfl rfl (.new 17 1 (by decide +kernel) rfl rfl (.new 18 0 (by decide +kernel) rfl rfl .nil))) (fun e_ => .inl ⟨rfl, V1.t (V1.slOwn ty_22 sz_5 hsoB rfl (min nA nB) rfl rfl (Nat.min_le_right _ _)) ⟨rfl, rfl⟩⟩) ?_
      refine Det.cons 20 (ins := [(79, _), (86, _)]) (.new 12 7 (by decide +kernel) rfl rfl (.new 19 0 (by decide +kernel) rfl rfl .nil)) (fun e_ => .inl ⟨rfl, V1.t (V1.bytesToStr (l := (expB key info nB).take (min nA nB)) ty_22 ty_5 ty_9 rfl (slV_own hsoB (by repeat (first | exact Sub.here | exact Sub.last | apply Sub.there | apply Sub.far)) (Nat.min_le_right _ _)) (slV_str _ _ _ _)) ⟨rfl, rfl⟩⟩) ?_
      refine Det.cons 21 (ins := [(79, _), (83, _), (87, _)]) (.new 12 8 (by decide +kernel) rfl rfl (.new 16 4 (by decide +kernel) rfl rfl (.new 20 0 (by decide +kernel) rfl rfl .nil))) (fun e_ => .inl ⟨rfl, V1.t (V1.eqS (r := true) rfl rfl (by rw [expB_take key info (Nat.min_le_left nA nB), expB_take key info (Nat.min_le_right nA nB)]; simp)) ⟨rfl, rfl⟩⟩) ?_
      refine Det.cons 22 (ins := [(79, _), (88, _)]) (.new 12 9 (by decide +kernel) rfl rfl (.new 21 0 (by decide +kernel) rfl rfl .nil)) (fun e_ => .inl ⟨rfl, V1.t (V1.pick rfl (by (conv => lhs; whnf) <;> rfl)) ⟨rfl, rfl⟩⟩) ?_
      refine Det.cons 23 (ins := [(89, _)]) (.new 22 0 (by decide +kernel) rfl rfl .nil) (fun e_ => .inl ⟨rfl, V1.t (V1.assign' (by (conv => lhs; whnf) <;> rfl)) ⟨rfl, rfl⟩⟩) ?_
      refine Det.nil 24 (l := [(6, _)]) (.new 23 0 (by decide +kernel) rfl rfl .nil) (fun e_ => ?_)
      refine T.ret ?_
      exact ⟨_, [], _, .cons (.tmp (by (conv => lhs; whnf) <;> rfl)) .nil, Take.nil, rfl⟩

end Go.Proofs.Ytelcmllfojfbfaa.S
