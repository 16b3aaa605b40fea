/- A sum with a key has counted the key's block and all that came in; and goes on behind being asked. -/
import Derived.Test.YtelcmllfojfbfaaM3
import Derived.Test.YtelcmllfojfbfaaSD
namespace Go.Proofs.Ytelcmllfojfbfaa.S
open Go.RowKit

open Sh

set_option maxRecDepth 100000 in
set_option maxHeartbeats 8000000 in
theorem MacCounts_any (v0 v1 : Value) (key : List UInt8) (svs : List Value) (ps : List (List UInt8)) (w0 : World) (hk : SlR w0 v0 1 key.length (key.map byteV)) (hkl : key.length ≤ 140737488355328) (hp : PartsIn w0 v1 svs ps) (hpn : ps.length ≤ 9223372036854775807) : Fn P 7 [v0, v1] w0 [] (fun v _ => v = .bool true) := by
  obtain ⟨ka, kc, rfl⟩ := hk.form
  obtain ⟨pa, pc, rfl⟩ := hp.form
  refine Fn.of 77 [.tmp 4] Go.Proofs.Try.func7 rfl rfl rfl rfl ?_
  refine T.seq ?_
  refine T.region ?_
  refine TL.cons rfl (V1.t (V1.assign' (by (conv => lhs; whnf) <;> rfl)) ?_)
  refine TL.nil ?_
  refine T.seq ?_
  refine T.seq ?_
  refine T.region ?_
  refine TL.cons rfl (T1.call0 has_24 rfl (fun w hs => known_any w) (fun v hv => ?_))
  subst hv
  refine TL.cons rfl (V1.t (V1.not rfl rfl) ?_)
  refine TL.nil ?_
  refine T.cond_f rfl ?_
  refine T.skip ?_
  refine T.seq ?_
  refine T.seq ?_
  refine T.region ?_
  refine TL.cons rfl (V1.t (V1.move' (by (conv => lhs; whnf) <;> rfl)) ?_)
  refine TL.cons rfl (V1.t (V1.lenSl ty_44 rfl) ?_)
  refine TL.cons rfl (T1.gtI_split rfl rfl (fun h3_2 => ?_) (fun h3_2 => ?_))
  ·
    refine TL.nil ?_
    refine T.cond_t rfl ?_
    refine T.seq ?_
    refine T.region ?_
    refine TL.cons rfl (V1.t (V1.assign' (by (conv => lhs; whnf) <;> rfl)) ?_)
    refine TL.nil ?_
    refine T.ret ?_
    exact ⟨_, [], _, .cons (.tmp (by (conv => lhs; whnf) <;> rfl)) .nil, Take.nil, rfl⟩
  ·
    refine TL.nil ?_
    refine T.cond_f rfl ?_
    refine T.skip ?_
    refine T.seq ?_
    refine T.region ?_
    refine TL.cons rfl (V1.t (V1.move' (by (conv => lhs; whnf) <;> rfl)) ?_)
    refine TL.cons rfl (T1.callX (X := []) has_27 rfl (macNew_any _ _ key [] (PartR.old hk) (by omega)) Take.nil (fun v2 Y hY => ?_))
    obtain ⟨bm, bh, X0, rfl, rfl, hx⟩ := hY
    simp only [List.cons_append, List.append_nil]
    have hx0 : HB T256 w32 bh (ipad key ++ []) X0 := by rw [List.append_nil]; exact hx
    refine TL.cons rfl (V1.t (V1.assign' (by (conv => lhs; whnf) <;> rfl)) ?_)
    refine TL.nil ?_
    refine T.seq ?_
    refine T.seq ?_
    refine T.region ?_
    refine TL.cons rfl (V1.t (V1.move' (by (conv => lhs; whnf) <;> rfl)) ?_)
    refine TL.cons rfl (V1.t (V1.eqNil ty_37 rfl rfl) ?_)
    refine TL.cons rfl (V1.t (V1.move' (by (conv => lhs; whnf) <;> rfl)) ?_)
    refine TL.cons rfl (V1.t (V1.move' (by (conv => lhs; whnf) <;> rfl)) ?_)
    refine TL.cons rfl (V1.t (V1.nilCheck rfl) ?_)
    refine TL.cons rfl (V1.t (V1.fieldAddr fl_42_0 rfl) ?_)
    refine TL.cons rfl (V1.t (V1.load1 one_40 rfl (.own (cells := .pointer (some ⟨bh, 0, none⟩) :: (opad key).map byteV) (by repeat (first | exact Find.here | assumption | apply Find.there | apply Find.far)) (by rfl))) ?_)
    refine TL.cons rfl (V1.t (V1.nilCheck rfl) ?_)
    refine TL.cons rfl (V1.t (V1.fieldAddr fl_52_0 rfl) ?_)
    refine TL.cons rfl (T1.callX (X := X0) has_31 rfl (Count_any T256 w32 _ bh (ipad key) X0 hx (by rw [ipad_len]; decide)) (by repeat (first | exact Take.nil | apply Take.one (by repeat (first | exact Pick.here | apply Pick.there | apply Pick.far)) | apply Take.seg (by repeat (first | exact PickS.last | exact PickS.one | exact PickS.here | exact PickS.nil | apply PickS.there | apply PickS.far)) | exact Take.last (by repeat (first | exact PickS.last | exact PickS.one | exact PickS.here | exact PickS.nil | apply PickS.there | apply PickS.far)))) (fun v3 Z hZ => ?_))
    obtain ⟨rfl, hzz⟩ := hZ
    rw [hzz]
    refine TL.cons rfl (V1.t (V1.neI (r := false) rfl rfl (by rw [ipad_len]; rfl)) ?_)
    refine TL.cons rfl (V1.t (V1.pick rfl (by (conv => lhs; whnf) <;> rfl)) ?_)
    refine TL.nil ?_
    refine T.cond_f rfl ?_
    refine T.skip ?_
    refine T.seq ?_
    refine T.live (l := [(0, _), (1, _), (5, _)]) (.cons (by (conv => lhs; whnf) <;> rfl) (.cons (by (conv => lhs; whnf) <;> rfl) (.cons (by (conv => lhs; whnf) <;> rfl) .nil))) (fun e_ => ?_)
    refine T.region ?_
    refine TL.cons rfl (V1.t (V1.assign' (by (conv => lhs; whnf) <;> rfl)) ?_)
    refine TL.nil ?_
    refine T.seq ?_
    refine T.seq ?_
    refine T.region ?_
    refine TL.cons rfl (V1.t (V1.move' (by (conv => lhs; whnf) <;> rfl)) ?_)
    refine TL.cons rfl (V1.t (V1.lenSl ty_44 rfl) ?_)
    refine TL.cons rfl (V1.t (V1.move' (by (conv => lhs; whnf) <;> rfl)) ?_)
    refine TL.nil ?_
    refine T.block ?_
    refine T.loopL (σ := Nat × Value × List UInt8 × List Blk × List Blk) (l0 := [(0, _), (5, _), (28, _), (29, _)]) (fun x => [(30, .int .i64 (x.1 : Nat)), (6, x.2.1)]) (fun x L => L = ⟨bm, 0, .pointer (some ⟨bh, 0, none⟩) :: (opad key).map byteV, 65⟩ :: (x.2.2.2.2 ++ (x.2.2.2.1 ++ [])) ∧ Sl x.2.1 (x.2.2.1.map byteV) 1 x.2.2.2.1 ∧ HB T256 w32 bh (ipad key ++ x.2.2.1) x.2.2.2.2 ∧ x.1 ≤ ps.length ∧ x.2.2.1.length ≤ 200 * x.1) (fun x => ps.length - x.1) (0, .slice none 0 0, [], [], X0) (.cons rfl (.cons rfl .nil)) (.cons (by (conv => lhs; whnf) <;> rfl) (.cons (by (conv => lhs; whnf) <;> rfl) (.cons (by (conv => lhs; whnf) <;> rfl) (.cons (by (conv => lhs; whnf) <;> rfl) .nil)))) (by repeat (first | exact Take.nil | apply Take.one (by repeat (first | exact Pick.here | apply Pick.there | apply Pick.far)) | apply Take.seg (by repeat (first | exact PickS.last | exact PickS.one | exact PickS.here | exact PickS.nil | apply PickS.there | apply PickS.far)) | exact Take.last (by repeat (first | exact PickS.last | exact PickS.one | exact PickS.here | exact PickS.nil | apply PickS.there | apply PickS.far)))) (⟨(rfl : ⟨bm, 0, .pointer (some ⟨bh, 0, none⟩) :: (opad key).map byteV, 65⟩ :: (X0 ++ []) = _), Sl.nil, hx0, Nat.zero_le _, Nat.zero_le _⟩) ?_
    rintro ⟨i, av, q, La, X⟩ e_ L ⟨rfl, hsl, h7, hi, hq⟩
    simp only at hsl h7 hi hq
    obtain ⟨aa, ac, rfl⟩ := (PartR.own (w0 := w0) (Ps := La) hsl (fun _ h => h)).form
    refine T.seq ?_
    refine T.region ?_
    refine TL.cons rfl (T1.ltI_split rfl rfl (fun h10_0 => ?_) (fun h10_0 => ?_))
    ·
      obtain ⟨ba_, oa_, sv, p, rfl, hpk, hin, hrd⟩ := hp.at (P := P) (k := i) (by omega)
      obtain ⟨sa, sc, rfl⟩ := hin.form
      obtain ⟨m, hm⟩ : ∃ m, m = p.take 200 := ⟨_, rfl⟩
      have hml : m.length ≤ 200 := by rw [hm, List.length_take]; omega
      have hv := inV_is hin 0 (min p.length 200) (Nat.zero_le _) (Nat.min_le_left _ _)
      rw [Nat.sub_zero, List.drop_zero, show p.take (min p.length 200) = m from by rw [hm, List.take_eq_take_iff]; omega] at hv
      obtain ⟨ma, mc, hme⟩ := hv.form
      rw [hme] at hv
      refine TL.nil ?_
      refine T.seq ?_
      refine T.cond_t rfl ?_
      refine T.skip ?_
      refine T.seq ?_
      refine T.block ?_
      refine T.seq ?_
      refine T.region ?_
      refine TL.cons rfl (V1.t (V1.indexAddrS ty_44 sz_22 rfl rfl (by omega) (by omega)) ?_)
      refine TL.cons rfl (V1.t (V1.load1 one_22 rfl (hrd _ rfl rfl _)) ?_)
      refine TL.cons rfl (V1.t (V1.assign' (by (conv => lhs; whnf) <;> rfl)) ?_)
      refine TL.nil ?_
      refine T.seq ?_
      refine T.region ?_
      refine TL.cons rfl (V1.t (V1.move' (by (conv => lhs; whnf) <;> rfl)) ?_)
      refine TL.cons rfl (V1.t (V1.move' (by (conv => lhs; whnf) <;> rfl)) ?_)
      refine TL.cons rfl (V1.t (V1.lenSl ty_22 rfl) ?_)
      refine TL.cons rfl (V1.t (V1.min2 (c := ((min p.length 200 : Nat) : Int)) rfl rfl (by omega)) ?_)
      refine TL.cons rfl (V1.t (show V1 _ _ _ _ (.slice ma m.length mc) from by rw [← hme]; exact V1.sliceIn ty_22 sz_5 hin rfl 0 (min p.length 200) rfl rfl (Nat.zero_le _) (Nat.min_le_left _ _)) ?_)
      refine TL.cons rfl (V1.t (V1.assign' (by (conv => lhs; whnf) <;> rfl)) ?_)
      refine TL.nil ?_
      refine T.seq ?_
      refine T.region ?_
      refine TL.cons rfl (V1.t (V1.move' (by (conv => lhs; whnf) <;> rfl)) ?_)
      refine TL.cons rfl (V1.t (V1.nilCheck rfl) ?_)
      refine TL.cons rfl (V1.t (V1.fieldAddr fl_42_0 rfl) ?_)
      refine TL.cons rfl (V1.t (V1.load1 one_40 rfl (.own (cells := .pointer (some ⟨bh, 0, none⟩) :: (opad key).map byteV) (by repeat (first | exact Find.here | assumption | apply Find.there | apply Find.far)) (by rfl))) ?_)
      refine TL.cons rfl (V1.t (V1.move' (by (conv => lhs; whnf) <;> rfl)) ?_)
      refine TL.cons rfl (T1.buildSl1 (os := [.tmp 43]) (vs := [.slice ma m.length mc]) ty_44 sz_22 zr_22 (by decide) rfl (.cons (by (conv => lhs; whnf) <;> rfl) .nil) rfl (ones rfl) (fun b44 => ?_))
      refine TL.cons rfl (T1.callX (X := X ++ [(⟨b44, 0, [.slice ma m.length mc], 1⟩ : Blk)]) has_28 rfl (Write256_any _ bh _ (ipad key ++ q) [m] X [(⟨b44, 0, [.slice ma m.length mc], 1⟩ : Blk)] h7 (PartsR.ones (svs := [.slice ma m.length mc]) (size := 1) (by simp) rfl (one_part hv.part)) (one_len (by omega)) (show 1 < 9223372036854775807 by decide)) (by repeat (first | exact Take.nil | apply Take.one (by repeat (first | exact Pick.here | apply Pick.there | apply Pick.far)) | apply Take.seg (by repeat (first | exact PickS.last | exact PickS.one | exact PickS.here | exact PickS.nil | apply PickS.there | apply PickS.far)) | exact Take.last (by repeat (first | exact PickS.last | exact PickS.one | exact PickS.here | exact PickS.nil | apply PickS.there | apply PickS.far)))) (fun v2 Z hZ => ?_))
      obtain ⟨X2, h7', rfl⟩ := hZ
      rw [show ([m] : List (List UInt8)).flatten = m from by simp, List.append_assoc] at h7'
      simp only [List.append_assoc, List.cons_append, List.nil_append]
      refine TL.nil ?_
      refine T.seq ?_
      refine T.live (l := [(0, _), (5, _), (6, _), (8, _), (28, _), (29, _), (30, _)]) (.cons (by (conv => lhs; whnf) <;> rfl) (.cons (by (conv => lhs; whnf) <;> rfl) (.cons (by (conv => lhs; whnf) <;> rfl) (.cons (by (conv => lhs; whnf) <;> rfl) (.cons (by (conv => lhs; whnf) <;> rfl) (.cons (by (conv => lhs; whnf) <;> rfl) (.cons (by (conv => lhs; whnf) <;> rfl) .nil))))))) (fun e_ => ?_)
      refine T.region ?_
      refine TL.cons rfl (V1.t (V1.move' (by (conv => lhs; whnf) <;> rfl)) ?_)
      refine TL.cons rfl (V1.t (V1.move' (by (conv => lhs; whnf) <;> rfl)) ?_)
      refine TL.cons rfl (T1.append ty_22 kd_22 sz_5 by_5 zr_5 rfl (by decide) (by decide) rfl rfl hsl (hv.src rfl) (one_bytes _) 200000000000000 (by simp only [List.length_map]; omega) (by omega) (by repeat (first | exact PickS.last | exact PickS.one | exact PickS.here | exact PickS.nil | apply PickS.there | apply PickS.far)) (fun s1 Ls1 hs1 => ?_))
      rw [← List.map_append] at hs1
      obtain ⟨ga, gc, rfl⟩ := (PartR.own (w0 := w0) (Ps := Ls1) hs1 (fun _ h => h)).form
      refine TL.cons rfl (V1.t (V1.assign' (by (conv => lhs; whnf) <;> rfl)) ?_)
      refine TL.nil ?_
      refine T.seq ?_
      refine T.region ?_
      refine TL.cons rfl (V1.t (V1.move' (by (conv => lhs; whnf) <;> rfl)) ?_)
      refine TL.cons rfl (V1.t (V1.nilCheck rfl) ?_)
      refine TL.cons rfl (V1.t (V1.fieldAddr fl_42_0 rfl) ?_)
      refine TL.cons rfl (V1.t (V1.load1 one_40 rfl (.own (cells := .pointer (some ⟨bh, 0, none⟩) :: (opad key).map byteV) (by repeat (first | exact Find.here | assumption | apply Find.there | apply Find.far)) (by rfl))) ?_)
      refine TL.cons rfl (V1.t (V1.nilCheck rfl) ?_)
      refine TL.cons rfl (V1.t (V1.fieldAddr fl_52_0 rfl) ?_)
      refine TL.cons rfl (T1.callX (X := X2) has_31 rfl (Count_any T256 w32 _ bh (ipad key ++ (q ++ m)) X2 h7' (by simp only [List.length_append, ipad_len]; omega)) (by repeat (first | exact Take.nil | apply Take.one (by repeat (first | exact Pick.here | apply Pick.there | apply Pick.far)) | apply Take.seg (by repeat (first | exact PickS.last | exact PickS.one | exact PickS.here | exact PickS.nil | apply PickS.there | apply PickS.far)) | exact Take.last (by repeat (first | exact PickS.last | exact PickS.one | exact PickS.here | exact PickS.nil | apply PickS.there | apply PickS.far)))) (fun v3 Z hZ => ?_))
      obtain ⟨rfl, hzz⟩ := hZ
      rw [hzz]
      refine TL.cons rfl (V1.t (V1.move' (by (conv => lhs; whnf) <;> rfl)) ?_)
      refine TL.cons rfl (V1.t (V1.lenSl ty_22 rfl) ?_)
      refine TL.cons rfl (V1.t (V1.add (c := ((64 + (q ++ m).length : Nat) : Int)) rfl rfl (by rw [List.length_append, wrap_i64 _ (by omega) (by omega)]; omega)) ?_)
      refine TL.cons rfl (V1.t (V1.neI (r := false) rfl rfl (by rw [List.length_append, ipad_len]; simp)) ?_)
      refine TL.cons rfl (V1.t (V1.move' (by (conv => lhs; whnf) <;> rfl)) ?_)
      refine TL.cons rfl (V1.t (V1.move' (by (conv => lhs; whnf) <;> rfl)) ?_)
      refine TL.cons rfl (T1.callX (X := ⟨bm, 0, .pointer (some ⟨bh, 0, none⟩) :: (opad key).map byteV, 65⟩ :: X2) has_29 rfl (MSum_any _ bm key (q ++ m) (⟨bm, 0, .pointer (some ⟨bh, 0, none⟩) :: (opad key).map byteV, 65⟩ :: X2) ⟨bh, X2, rfl, h7'⟩ (by rw [List.length_append]; omega)) (by repeat (first | exact Take.nil | apply Take.one (by repeat (first | exact Pick.here | apply Pick.there | apply Pick.far)) | apply Take.seg (by repeat (first | exact PickS.last | exact PickS.one | exact PickS.here | exact PickS.nil | apply PickS.there | apply PickS.far)) | exact Take.last (by repeat (first | exact PickS.last | exact PickS.one | exact PickS.here | exact PickS.nil | apply PickS.there | apply PickS.far)))) (fun v3 Y hY => ?_))
      obtain ⟨rfl, hzz⟩ := hY
      rw [hzz]
      simp only [List.cons_append]
      refine TL.cons rfl (V1.t (V1.move' (by (conv => lhs; whnf) <;> rfl)) ?_)
      refine TL.cons rfl (V1.t (V1.move' (by (conv => lhs; whnf) <;> rfl)) ?_)
      refine TL.cons rfl (T1.buildSl1 (os := [.tmp 64]) (vs := [.slice ga (q ++ m).length gc]) ty_44 sz_22 zr_22 (by decide) rfl (.cons (by (conv => lhs; whnf) <;> rfl) .nil) rfl (ones rfl) (fun b65 => ?_))
      refine TL.cons rfl (T1.callX (X := ((⟨b65, 0, [.slice ga (q ++ m).length gc], 1⟩ : Blk) :: Ls1)) has_25 rfl (mac_any _ _ _ key [q ++ m] ((⟨b65, 0, [.slice ga (q ++ m).length gc], 1⟩ : Blk) :: Ls1) (PartR.old hk) (by omega) (PartsR.ones (svs := [.slice ga (q ++ m).length gc]) (size := 1) (by simp) rfl (one_part (PartR.own hs1 (fun _ h => List.mem_cons_of_mem _ h)))) (one_len (by rw [List.length_append]; omega)) (show 1 < 9223372036854775807 by decide) (by simp; omega)) (by repeat (first | exact Take.nil | apply Take.one (by repeat (first | exact Pick.here | apply Pick.there | apply Pick.far)) | apply Take.seg (by repeat (first | exact PickS.last | exact PickS.one | exact PickS.here | exact PickS.nil | apply PickS.there | apply PickS.far)) | exact Take.last (by repeat (first | exact PickS.last | exact PickS.one | exact PickS.here | exact PickS.nil | apply PickS.there | apply PickS.far)))) (fun v Y hY => ?_))
      obtain ⟨rfl, hzz⟩ := hY
      rw [hzz]
      simp only [List.cons_append, List.nil_append, List.append_assoc]
      rw [show ([q ++ m] : List (List UInt8)).flatten = q ++ m from by simp]
      refine TL.cons rfl (V1.t (V1.neBs (r := false) ty_26 ty_5 sz_5 eg_26 rfl rfl (hmac_len _ _) (hmac_len _ _) (by simp)) ?_)
      refine TL.cons rfl (V1.t (V1.pick rfl (by (conv => lhs; whnf) <;> rfl)) ?_)
      refine TL.nil ?_
      refine T.cond_f rfl ?_
      refine T.skip ?_
      refine T.live (l := [(0, _), (5, _), (6, _), (28, _), (29, _), (30, _)]) (.cons (by (conv => lhs; whnf) <;> rfl) (.cons (by (conv => lhs; whnf) <;> rfl) (.cons (by (conv => lhs; whnf) <;> rfl) (.cons (by (conv => lhs; whnf) <;> rfl) (.cons (by (conv => lhs; whnf) <;> rfl) (.cons (by (conv => lhs; whnf) <;> rfl) .nil)))))) (fun e_ => ?_)
      refine T.region ?_
      refine TL.cons rfl (V1.t (V1.add rfl rfl (wrap_i64 _ (by omega) (by omega))) ?_)
      refine TL.cons rfl (V1.t (V1.move' (by (conv => lhs; whnf) <;> rfl)) ?_)
      refine TL.nil ?_
      exact ⟨(i + 1, _, q ++ m, Ls1, X2), _, _, (by simp only; omega), (.cons rfl (.cons rfl .nil)), (.cons rfl (.cons rfl (.cons rfl (.cons rfl .nil)))), (by repeat (first | exact Take.nil | apply Take.one (by repeat (first | exact Pick.here | apply Pick.there | apply Pick.far)) | apply Take.seg (by repeat (first | exact PickS.last | exact PickS.one | exact PickS.here | exact PickS.nil | apply PickS.there | apply PickS.far)) | exact Take.last (by repeat (first | exact PickS.last | exact PickS.one | exact PickS.here | exact PickS.nil | apply PickS.there | apply PickS.far)))), ⟨rfl, hs1, h7', by simp only; omega, by simp only [List.length_append]; omega⟩⟩
    ·
      refine TL.nil ?_
      refine T.seq ?_
      refine T.cond_f rfl ?_
      refine T.exit ?_
      refine T.seq ?_
      refine T.region ?_
      refine TL.cons rfl (V1.t (V1.move' (by (conv => lhs; whnf) <;> rfl)) ?_)
      refine TL.cons rfl (T1.callX (X := ⟨bm, 0, .pointer (some ⟨bh, 0, none⟩) :: (opad key).map byteV, 65⟩ :: X) has_29 rfl (MSum_any _ bm key (q) (⟨bm, 0, .pointer (some ⟨bh, 0, none⟩) :: (opad key).map byteV, 65⟩ :: X) ⟨bh, X, rfl, h7⟩ (by omega)) (by repeat (first | exact Take.nil | apply Take.one (by repeat (first | exact Pick.here | apply Pick.there | apply Pick.far)) | apply Take.seg (by repeat (first | exact PickS.last | exact PickS.one | exact PickS.here | exact PickS.nil | apply PickS.there | apply PickS.far)) | exact Take.last (by repeat (first | exact PickS.last | exact PickS.one | exact PickS.here | exact PickS.nil | apply PickS.there | apply PickS.far)))) (fun v3 Y hY => ?_))
      obtain ⟨rfl, hzz⟩ := hY
      rw [hzz]
      simp only [List.cons_append]
      refine TL.cons rfl (V1.t (V1.move' (by (conv => lhs; whnf) <;> rfl)) ?_)
      refine TL.cons rfl (V1.t (V1.move' (by (conv => lhs; whnf) <;> rfl)) ?_)
      refine TL.cons rfl (T1.buildSl1 (os := [.tmp 73]) (vs := [.slice aa q.length ac]) ty_44 sz_22 zr_22 (by decide) rfl (.cons (by (conv => lhs; whnf) <;> rfl) .nil) rfl (ones rfl) (fun b74 => ?_))
      refine TL.cons rfl (T1.callX (X := ((⟨b74, 0, [.slice aa q.length ac], 1⟩ : Blk) :: La)) has_25 rfl (mac_any _ _ _ key [q] ((⟨b74, 0, [.slice aa q.length ac], 1⟩ : Blk) :: La) (PartR.old hk) (by omega) (PartsR.ones (svs := [.slice aa q.length ac]) (size := 1) (by simp) rfl (one_part (PartR.own hsl (fun _ h => List.mem_cons_of_mem _ h)))) (one_len (by omega)) (show 1 < 9223372036854775807 by decide) (by simp; omega)) (by repeat (first | exact Take.nil | apply Take.one (by repeat (first | exact Pick.here | apply Pick.there | apply Pick.far)) | apply Take.seg (by repeat (first | exact PickS.last | exact PickS.one | exact PickS.here | exact PickS.nil | apply PickS.there | apply PickS.far)) | exact Take.last (by repeat (first | exact PickS.last | exact PickS.one | exact PickS.here | exact PickS.nil | apply PickS.there | apply PickS.far)))) (fun v Y hY => ?_))
      obtain ⟨rfl, hzz⟩ := hY
      rw [hzz]
      simp only [List.cons_append, List.nil_append, List.append_assoc]
      rw [show ([q] : List (List UInt8)).flatten = q from by simp]
      refine TL.cons rfl (V1.t (V1.eqBs (r := true) ty_26 ty_5 sz_5 eg_26 rfl rfl (hmac_len _ _) (hmac_len _ _) (by simp)) ?_)
      refine TL.cons rfl (V1.t (V1.assign' (by (conv => lhs; whnf) <;> rfl)) ?_)
      refine TL.nil ?_
      refine T.ret ?_
      exact ⟨_, [], _, .cons (.tmp (by (conv => lhs; whnf) <;> rfl)) .nil, Take.nil, rfl⟩

end Go.Proofs.Ytelcmllfojfbfaa.S
