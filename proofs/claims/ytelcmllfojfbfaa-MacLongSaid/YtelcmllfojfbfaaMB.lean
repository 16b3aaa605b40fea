/- A key longer than a block is as its sum, a shorter one as with noughts behind it. -/
import Derived.Test.YtelcmllfojfbfaaM3
import Derived.Test.YtelcmllfojfbfaaOpsA
namespace Go.Proofs.Ytelcmllfojfbfaa.S
open Go.RowKit

open Sh
theorem hmac_long {key b : List UInt8} (h : 64 < key.length) : hmac (sha T256 key) b = hmac key b := by
  have : keyOf (sha T256 key) = keyOf key := by
    unfold keyOf
    rw [if_pos h, if_neg (by rw [sha_len]; decide)]
  unfold hmac opad ipad kpad
  rw [this]
theorem hmac_noughts {key b : List UInt8} {n : Nat} (h : key.length + n ≤ 64) : hmac (key ++ List.replicate n 0) b = hmac key b := by
  have h1 : keyOf (key ++ List.replicate n 0) = key ++ List.replicate n 0 := by
    unfold keyOf
    rw [if_neg (by rw [List.length_append, List.length_replicate]; omega)]
  have h2 : keyOf key = key := by
    unfold keyOf
    rw [if_neg (by omega)]
  have h3 : kpad (key ++ List.replicate n 0) = kpad key := by
    unfold kpad
    rw [h1, h2, List.append_assoc, List.replicate_append_replicate, List.length_append, List.length_replicate, show n + (64 - (key.length + n)) = 64 - key.length from by omega]
  unfold hmac opad ipad
  rw [h3]

set_option maxRecDepth 100000 in
set_option maxHeartbeats 8000000 in
theorem MacLong_any (v0 v1 : Value) (key m : List UInt8) (nn : Int) (w0 : World) (hk : SlR w0 v0 1 key.length (key.map byteV)) (hm : SlR w0 v1 1 m.length (m.map byteV)) (hkl : key.length ≤ 140737488355328) (hml : m.length ≤ 140737488355328) : Fn P 5 [v0, v1, .int .i64 nn] w0 [] (fun v _ => v = .bool true) := by
  obtain ⟨ka, kc, rfl⟩ := hk.form
  obtain ⟨ma, mc, rfl⟩ := hm.form
  refine Fn.of 47 [.tmp 6] Go.Proofs.Try.func5 rfl rfl rfl rfl ?_
  refine T.seq ?_
  refine T.region ?_
  refine TL.cons rfl (V1.t (V1.assign' (by (conv => lhs; whnf) <;> rfl)) ?_)
  refine TL.nil ?_
  refine T.seq ?_
  refine T.seq ?_
  refine T.region ?_
  refine TL.cons rfl (T1.call0 has_24 rfl (fun w hs => known_any w) (fun v hv => ?_))
  subst hv
  refine TL.cons rfl (V1.t (V1.not rfl rfl) ?_)
  refine TL.nil ?_
  refine T.cond_f rfl ?_
  refine T.skip ?_
  refine T.seq ?_
  refine T.seq ?_
  refine T.region ?_
  refine TL.cons rfl (V1.t (V1.move' (by (conv => lhs; whnf) <;> rfl)) ?_)
  refine TL.cons rfl (V1.t (V1.lenSl ty_22 rfl) ?_)
  refine TL.cons rfl (T1.gtI_split rfl rfl (fun h3_2 => ?_) (fun h3_2 => ?_))
  ·
    refine TL.nil ?_
    refine T.cond_t rfl ?_
    refine T.seq ?_
    refine T.region ?_
    refine TL.cons rfl (V1.t (V1.move' (by (conv => lhs; whnf) <;> rfl)) ?_)
    refine TL.cons rfl (T1.buildSl1 (os := [.tmp 13]) (vs := [.slice ka key.length kc]) ty_44 sz_22 zr_22 (by decide) rfl (.cons (by (conv => lhs; whnf) <;> rfl) .nil) rfl (ones rfl) (fun b14 => ?_))
    refine TL.cons rfl (T1.callX (X := ([⟨b14, 0, [.slice ka key.length kc], 1⟩] : List Blk)) has_19 rfl (Sum256_any _ _ [key] ([⟨b14, 0, [.slice ka key.length kc], 1⟩] : List Blk) (PartsR.ones (svs := [.slice ka key.length kc]) (size := 1) (by simp) rfl (one_part (PartR.old hk))) (one_len (by omega)) (show 1 < 9223372036854775807 by decide) (by simp; omega)) (by repeat (first | exact Take.nil | apply Take.one (by repeat (first | exact Pick.here | apply Pick.there | apply Pick.far)) | apply Take.seg (by repeat (first | exact PickS.last | exact PickS.one | exact PickS.here | exact PickS.nil | apply PickS.there | apply PickS.far)) | exact Take.last (by repeat (first | exact PickS.last | exact PickS.one | exact PickS.here | exact PickS.nil | apply PickS.there | apply PickS.far)))) (fun v Y hY => ?_))
    obtain ⟨rfl, hzz⟩ := hY
    rw [hzz]
    simp only [List.cons_append, List.nil_append, List.append_assoc]
    rw [show ([key] : List (List UInt8)).flatten = key from by simp]
    refine TL.cons rfl (T1.allocN 32 zr_26 rfl (fun b7 => ?_))
    refine TL.cons rfl (T1.storeN rfl rfl sz_26 (one_bytes _) (by repeat (first | exact Sub.one | apply Sub.there | apply Sub.far)) (by rw [List.length_map, sha_len]; rfl) (by rw [List.length_map, sha_len]) ?_)
    refine TL.nil ?_
    refine T.seq ?_
    refine T.drawK (fun L_ => Find L_ ⟨b7, 0, (sha T256 key).map byteV, 32⟩) mixed (by repeat (first | exact Find.here | assumption | apply Find.there | apply Find.far)) ?_
    refine TK.take 0 rfl (by decide +kernel) (by decide +kernel) (by decide +kernel) rfl (fun _ _ _ h => h) (fun L_ k1_ => V1.move' (by (conv => lhs; whnf) <;> rfl)) ?_
    refine TK.take 1 rfl (by decide +kernel) (by decide +kernel) (by decide +kernel) rfl (fun _ _ _ h => h) (fun L_ k1_ => V1.move' (by (conv => lhs; whnf) <;> rfl)) ?_
    refine TK.take 4 rfl (by decide +kernel) (by decide +kernel) (by decide +kernel) rfl (fun _ _ _ h => h) (fun L_ k1_ => V1.sliceA ty_26 sz_5 rfl rfl rfl (by decide) (by decide) (by decide)) ?_
    refine TK.take 5 rfl (by decide +kernel) (by decide +kernel) (by decide +kernel) rfl (fun _ _ _ h => h) (fun L_ k1_ => V1.move' (by (conv => lhs; whnf) <;> rfl)) ?_
    refine TK.two 2 6 (by decide +kernel) rfl rfl rfl rfl (T1.buildSl1 (os := [.tmp 17]) (vs := [.slice ma m.length mc]) ty_44 sz_22 zr_22 (by decide) rfl (.cons (by (conv => lhs; whnf) <;> rfl) .nil) rfl (ones rfl) (fun b18 => ?_)) (T1.buildSl1 (os := [.tmp 21]) (vs := [.slice ma m.length mc]) ty_44 sz_22 zr_22 (by decide) rfl (.cons (by (conv => lhs; whnf) <;> rfl) .nil) rfl (ones rfl) (fun b22 => ?_))
    ·
      refine ⟨(by repeat (first | exact Find.here | assumption | apply Find.there | apply Find.far)), ?_⟩
      refine TK.two 3 6 (by decide +kernel) rfl rfl rfl rfl (T1.callX (X := ([⟨b18, 0, [.slice ma m.length mc], 1⟩] : List Blk)) has_25 rfl (mac_any _ _ _ key [m] ([⟨b18, 0, [.slice ma m.length mc], 1⟩] : List Blk) (PartR.old hk) (by omega) (PartsR.ones (svs := [.slice ma m.length mc]) (size := 1) (by simp) rfl (one_part (PartR.old hm))) (one_len (by omega)) (show 1 < 9223372036854775807 by decide) (by simp; omega)) (by repeat (first | exact Take.nil | apply Take.one (by repeat (first | exact Pick.here | apply Pick.there | apply Pick.far)) | apply Take.seg (by repeat (first | exact PickS.last | exact PickS.one | exact PickS.here | exact PickS.nil | apply PickS.there | apply PickS.far)) | exact Take.last (by repeat (first | exact PickS.last | exact PickS.one | exact PickS.here | exact PickS.nil | apply PickS.there | apply PickS.far)))) (fun v Y hY => ?_)) (T1.buildSl1 (os := [.tmp 21]) (vs := [.slice ma m.length mc]) ty_44 sz_22 zr_22 (by decide) rfl (.cons (by (conv => lhs; whnf) <;> rfl) .nil) rfl (ones rfl) (fun b22 => ?_))
      ·
        obtain ⟨rfl, hzz⟩ := hY
        rw [hzz]
        simp only [List.cons_append, List.nil_append, List.append_assoc]
        rw [show ([m] : List (List UInt8)).flatten = m from by simp]
        refine ⟨(by repeat (first | exact Find.here | assumption | apply Find.there | apply Find.far)), ?_⟩
        refine TK.one 6 (by decide +kernel) rfl rfl (T1.buildSl1 (os := [.tmp 21]) (vs := [.slice ma m.length mc]) ty_44 sz_22 zr_22 (by decide) rfl (.cons (by (conv => lhs; whnf) <;> rfl) .nil) rfl (ones rfl) (fun b22 => ?_))
        refine ⟨(by repeat (first | exact Find.here | assumption | apply Find.there | apply Find.far)), ?_⟩
        refine TK.one 7 (by decide +kernel) rfl rfl (T1.callX (X := ([⟨b22, 0, [.slice ma m.length mc], 1⟩, ⟨b7, 0, (sha T256 key).map byteV, 32⟩] : List Blk)) has_25 rfl (mac_any _ _ _ (sha T256 key) [m] ([⟨b22, 0, [.slice ma m.length mc], 1⟩, ⟨b7, 0, (sha T256 key).map byteV, 32⟩] : List Blk) (part64 (size := 32) (by simp) (sha_len _ _)) (by rw [sha_len]; decide) (PartsR.ones (svs := [.slice ma m.length mc]) (size := 1) (by simp) rfl (one_part (PartR.old hm))) (one_len (by omega)) (show 1 < 9223372036854775807 by decide) (by simp; omega)) (by repeat (first | exact Take.nil | apply Take.one (by repeat (first | exact Pick.here | apply Pick.there | apply Pick.far)) | apply Take.seg (by repeat (first | exact PickS.last | exact PickS.one | exact PickS.here | exact PickS.nil | apply PickS.there | apply PickS.far)) | exact Take.last (by repeat (first | exact PickS.last | exact PickS.one | exact PickS.here | exact PickS.nil | apply PickS.there | apply PickS.far)))) (fun v Y hY => ?_))
        obtain ⟨rfl, hzz⟩ := hY
        rw [hzz]
        simp only [List.cons_append, List.nil_append, List.append_assoc]
        rw [show ([m] : List (List UInt8)).flatten = m from by simp]
        refine ⟨(by repeat (first | exact Find.here | assumption | apply Find.there | apply Find.far)), ?_⟩
        refine TK.take 8 rfl (by decide +kernel) (by decide +kernel) (by decide +kernel) rfl (fun _ _ _ h => h) (fun L_ k1_ => V1.eqBs (r := true) ty_26 ty_5 sz_5 eg_26 rfl rfl (hmac_len _ _) (hmac_len _ _) (by rw [hmac_long (by omega)]; simp)) ?_
        refine TK.take 9 rfl (by decide +kernel) (by decide +kernel) (by decide +kernel) rfl (fun _ _ _ h => h) (fun L_ k1_ => V1.assign' (by (conv => lhs; whnf) <;> rfl)) ?_
        refine TD.done (by decide +kernel) ?_
        refine T.ret ?_
        exact ⟨_, [], _, .cons (.tmp (by (conv => lhs; whnf) <;> rfl)) .nil, Take.nil, rfl⟩
      ·
        refine ⟨(by repeat (first | exact Find.here | assumption | apply Find.there | apply Find.far)), ?_⟩
        refine TK.one 3 (by decide +kernel) rfl rfl (T1.callX (X := ([⟨b18, 0, [.slice ma m.length mc], 1⟩] : List Blk)) has_25 rfl (mac_any _ _ _ key [m] ([⟨b18, 0, [.slice ma m.length mc], 1⟩] : List Blk) (PartR.old hk) (by omega) (PartsR.ones (svs := [.slice ma m.length mc]) (size := 1) (by simp) rfl (one_part (PartR.old hm))) (one_len (by omega)) (show 1 < 9223372036854775807 by decide) (by simp; omega)) (by repeat (first | exact Take.nil | apply Take.one (by repeat (first | exact Pick.here | apply Pick.there | apply Pick.far)) | apply Take.seg (by repeat (first | exact PickS.last | exact PickS.one | exact PickS.here | exact PickS.nil | apply PickS.there | apply PickS.far)) | exact Take.last (by repeat (first | exact PickS.last | exact PickS.one | exact PickS.here | exact PickS.nil | apply PickS.there | apply PickS.far)))) (fun v Y hY => ?_))
        obtain ⟨rfl, hzz⟩ := hY
        rw [hzz]
        simp only [List.cons_append, List.nil_append, List.append_assoc]
        rw [show ([m] : List (List UInt8)).flatten = m from by simp]
        refine ⟨(by repeat (first | exact Find.here | assumption | apply Find.there | apply Find.far)), ?_⟩
        refine TK.one 7 (by decide +kernel) rfl rfl (T1.callX (X := ([⟨b22, 0, [.slice ma m.length mc], 1⟩, ⟨b7, 0, (sha T256 key).map byteV, 32⟩] : List Blk)) has_25 rfl (mac_any _ _ _ (sha T256 key) [m] ([⟨b22, 0, [.slice ma m.length mc], 1⟩, ⟨b7, 0, (sha T256 key).map byteV, 32⟩] : List Blk) (part64 (size := 32) (by simp) (sha_len _ _)) (by rw [sha_len]; decide) (PartsR.ones (svs := [.slice ma m.length mc]) (size := 1) (by simp) rfl (one_part (PartR.old hm))) (one_len (by omega)) (show 1 < 9223372036854775807 by decide) (by simp; omega)) (by repeat (first | exact Take.nil | apply Take.one (by repeat (first | exact Pick.here | apply Pick.there | apply Pick.far)) | apply Take.seg (by repeat (first | exact PickS.last | exact PickS.one | exact PickS.here | exact PickS.nil | apply PickS.there | apply PickS.far)) | exact Take.last (by repeat (first | exact PickS.last | exact PickS.one | exact PickS.here | exact PickS.nil | apply PickS.there | apply PickS.far)))) (fun v Y hY => ?_))
        obtain ⟨rfl, hzz⟩ := hY
        rw [hzz]
        simp only [List.cons_append, List.nil_append, List.append_assoc]
        rw [show ([m] : List (List UInt8)).flatten = m from by simp]
        refine ⟨(by repeat (first | exact Find.here | assumption | apply Find.there | apply Find.far)), ?_⟩
        refine TK.take 8 rfl (by decide +kernel) (by decide +kernel) (by decide +kernel) rfl (fun _ _ _ h => h) (fun L_ k1_ => V1.eqBs (r := true) ty_26 ty_5 sz_5 eg_26 rfl rfl (hmac_len _ _) (hmac_len _ _) (by rw [hmac_long (by omega)]; simp)) ?_
        refine TK.take 9 rfl (by decide +kernel) (by decide +kernel) (by decide +kernel) rfl (fun _ _ _ h => h) (fun L_ k1_ => V1.assign' (by (conv => lhs; whnf) <;> rfl)) ?_
        refine TD.done (by decide +kernel) ?_
        refine T.ret ?_
        exact ⟨_, [], _, .cons (.tmp (by (conv => lhs; whnf) <;> rfl)) .nil, Take.nil, rfl⟩
    ·
      refine ⟨(by repeat (first | exact Find.here | assumption | apply Find.there | apply Find.far)), ?_⟩
      refine TK.one 2 (by decide +kernel) rfl rfl (T1.buildSl1 (os := [.tmp 17]) (vs := [.slice ma m.length mc]) ty_44 sz_22 zr_22 (by decide) rfl (.cons (by (conv => lhs; whnf) <;> rfl) .nil) rfl (ones rfl) (fun b18 => ?_))
      refine ⟨(by repeat (first | exact Find.here | assumption | apply Find.there | apply Find.far)), ?_⟩
      refine TK.one 3 (by decide +kernel) rfl rfl (T1.callX (X := ([⟨b18, 0, [.slice ma m.length mc], 1⟩] : List Blk)) has_25 rfl (mac_any _ _ _ key [m] ([⟨b18, 0, [.slice ma m.length mc], 1⟩] : List Blk) (PartR.old hk) (by omega) (PartsR.ones (svs := [.slice ma m.length mc]) (size := 1) (by simp) rfl (one_part (PartR.old hm))) (one_len (by omega)) (show 1 < 9223372036854775807 by decide) (by simp; omega)) (by repeat (first | exact Take.nil | apply Take.one (by repeat (first | exact Pick.here | apply Pick.there | apply Pick.far)) | apply Take.seg (by repeat (first | exact PickS.last | exact PickS.one | exact PickS.here | exact PickS.nil | apply PickS.there | apply PickS.far)) | exact Take.last (by repeat (first | exact PickS.last | exact PickS.one | exact PickS.here | exact PickS.nil | apply PickS.there | apply PickS.far)))) (fun v Y hY => ?_))
      obtain ⟨rfl, hzz⟩ := hY
      rw [hzz]
      simp only [List.cons_append, List.nil_append, List.append_assoc]
      rw [show ([m] : List (List UInt8)).flatten = m from by simp]
      refine ⟨(by repeat (first | exact Find.here | assumption | apply Find.there | apply Find.far)), ?_⟩
      refine TK.one 7 (by decide +kernel) rfl rfl (T1.callX (X := ([⟨b22, 0, [.slice ma m.length mc], 1⟩, ⟨b7, 0, (sha T256 key).map byteV, 32⟩] : List Blk)) has_25 rfl (mac_any _ _ _ (sha T256 key) [m] ([⟨b22, 0, [.slice ma m.length mc], 1⟩, ⟨b7, 0, (sha T256 key).map byteV, 32⟩] : List Blk) (part64 (size := 32) (by simp) (sha_len _ _)) (by rw [sha_len]; decide) (PartsR.ones (svs := [.slice ma m.length mc]) (size := 1) (by simp) rfl (one_part (PartR.old hm))) (one_len (by omega)) (show 1 < 9223372036854775807 by decide) (by simp; omega)) (by repeat (first | exact Take.nil | apply Take.one (by repeat (first | exact Pick.here | apply Pick.there | apply Pick.far)) | apply Take.seg (by repeat (first | exact PickS.last | exact PickS.one | exact PickS.here | exact PickS.nil | apply PickS.there | apply PickS.far)) | exact Take.last (by repeat (first | exact PickS.last | exact PickS.one | exact PickS.here | exact PickS.nil | apply PickS.there | apply PickS.far)))) (fun v Y hY => ?_))
      obtain ⟨rfl, hzz⟩ := hY
      rw [hzz]
      simp only [List.cons_append, List.nil_append, List.append_assoc]
      rw [show ([m] : List (List UInt8)).flatten = m from by simp]
      refine ⟨(by repeat (first | exact Find.here | assumption | apply Find.there | apply Find.far)), ?_⟩
      refine TK.take 8 rfl (by decide +kernel) (by decide +kernel) (by decide +kernel) rfl (fun _ _ _ h => h) (fun L_ k1_ => V1.eqBs (r := true) ty_26 ty_5 sz_5 eg_26 rfl rfl (hmac_len _ _) (hmac_len _ _) (by rw [hmac_long (by omega)]; simp)) ?_
      refine TK.take 9 rfl (by decide +kernel) (by decide +kernel) (by decide +kernel) rfl (fun _ _ _ h => h) (fun L_ k1_ => V1.assign' (by (conv => lhs; whnf) <;> rfl)) ?_
      refine TD.done (by decide +kernel) ?_
      refine T.ret ?_
      exact ⟨_, [], _, .cons (.tmp (by (conv => lhs; whnf) <;> rfl)) .nil, Take.nil, rfl⟩
  ·
    refine TL.nil ?_
    refine T.cond_f rfl ?_
    refine T.skip ?_
    refine T.seq ?_
    refine T.seq ?_
    refine T.region ?_
    refine TL.cons rfl (V1.t (V1.move' (by (conv => lhs; whnf) <;> rfl)) ?_)
    refine TL.cons rfl (T1.ltI_split rfl rfl (fun h6_1 => ?_) (fun h6_1 => ?_))
    ·
      refine TL.cons rfl (V1.t (V1.move' (by (conv => lhs; whnf) <;> rfl)) ?_)
      refine TL.no rfl ?_
      refine TL.no rfl ?_
      refine TL.no rfl ?_
      refine TL.no rfl ?_
      refine TL.no rfl ?_
      refine TL.cons rfl (V1.t (V1.pick rfl (by (conv => lhs; whnf) <;> rfl)) ?_)
      refine TL.nil ?_
      refine T.cond_t rfl ?_
      refine T.seq ?_
      refine T.live (l := []) .nil (fun e_ => ?_)
      refine T.region ?_
      refine TL.cons rfl (V1.t (V1.assign' (by (conv => lhs; whnf) <;> rfl)) ?_)
      refine TL.nil ?_
      refine T.ret ?_
      exact ⟨_, [], _, .cons (.tmp (by (conv => lhs; whnf) <;> rfl)) .nil, Take.nil, rfl⟩
    ·
      refine TL.cons rfl (V1.t (V1.move' (by (conv => lhs; whnf) <;> rfl)) ?_)
      refine TL.cons rfl (V1.t (V1.move' (by (conv => lhs; whnf) <;> rfl)) ?_)
      refine TL.cons rfl (V1.t (V1.move' (by (conv => lhs; whnf) <;> rfl)) ?_)
      refine TL.cons rfl (V1.t (V1.lenSl ty_22 rfl) ?_)
      refine TL.cons rfl (V1.t (V1.sub rfl rfl (wrap_i64 _ (by omega) (by omega))) ?_)
      refine TL.cons rfl (T1.gtI_split rfl rfl (fun h6_7 => ?_) (fun h6_7 => ?_))
      ·
        refine TL.cons rfl (V1.t (V1.pick rfl (by (conv => lhs; whnf) <;> rfl)) ?_)
        refine TL.nil ?_
        refine T.cond_t rfl ?_
        refine T.seq ?_
        refine T.live (l := []) .nil (fun e_ => ?_)
        refine T.region ?_
        refine TL.cons rfl (V1.t (V1.assign' (by (conv => lhs; whnf) <;> rfl)) ?_)
        refine TL.nil ?_
        refine T.ret ?_
        exact ⟨_, [], _, .cons (.tmp (by (conv => lhs; whnf) <;> rfl)) .nil, Take.nil, rfl⟩
      ·
        obtain ⟨n, rfl⟩ : ∃ n : Nat, nn = (n : Int) := ⟨nn.toNat, by omega⟩
        have hn64 : key.length + n ≤ 64 := by omega
        refine TL.cons rfl (V1.t (V1.pick rfl (by (conv => lhs; whnf) <;> rfl)) ?_)
        refine TL.nil ?_
        refine T.cond_f rfl ?_
        refine T.skip ?_
        refine T.seq ?_
        refine T.live (l := [(0, _), (1, _), (2, _)]) (.cons (by (conv => lhs; whnf) <;> rfl) (.cons (by (conv => lhs; whnf) <;> rfl) (.cons (by (conv => lhs; whnf) <;> rfl) .nil))) (fun e_ => ?_)
        refine T.region ?_
        refine TL.cons rfl (V1.t (V1.move' (by (conv => lhs; whnf) <;> rfl)) ?_)
        refine TL.cons rfl (V1.t (V1.move' (by (conv => lhs; whnf) <;> rfl)) ?_)
        refine TL.cons rfl (T1.buildSl1 (os := [.tmp 35]) (vs := [.slice ma m.length mc]) ty_44 sz_22 zr_22 (by decide) rfl (.cons (by (conv => lhs; whnf) <;> rfl) .nil) rfl (ones rfl) (fun b36 => ?_))
        refine TL.cons rfl (T1.callX (X := ([⟨b36, 0, [.slice ma m.length mc], 1⟩] : List Blk)) has_25 rfl (mac_any _ _ _ key [m] ([⟨b36, 0, [.slice ma m.length mc], 1⟩] : List Blk) (PartR.old hk) (by omega) (PartsR.ones (svs := [.slice ma m.length mc]) (size := 1) (by simp) rfl (one_part (PartR.old hm))) (one_len (by omega)) (show 1 < 9223372036854775807 by decide) (by simp; omega)) (by repeat (first | exact Take.nil | apply Take.one (by repeat (first | exact Pick.here | apply Pick.there | apply Pick.far)) | apply Take.seg (by repeat (first | exact PickS.last | exact PickS.one | exact PickS.here | exact PickS.nil | apply PickS.there | apply PickS.far)) | exact Take.last (by repeat (first | exact PickS.last | exact PickS.one | exact PickS.here | exact PickS.nil | apply PickS.there | apply PickS.far)))) (fun v Y hY => ?_))
        obtain ⟨rfl, hzz⟩ := hY
        rw [hzz]
        simp only [List.cons_append, List.nil_append, List.append_assoc]
        rw [show ([m] : List (List UInt8)).flatten = m from by simp]
        refine TL.cons rfl (T1.buildSl1 (os := []) ty_22 sz_5 zr_5 (by decide) rfl .nil rfl (ones rfl) (fun b38 => ?_))
        refine TL.cons rfl (V1.t (V1.move' (by (conv => lhs; whnf) <;> rfl)) ?_)
        refine TL.cons rfl (T1.append ty_22 kd_22 sz_5 by_5 zr_5 rfl (by decide) (by decide) rfl rfl (Sl.mk (b := b38) (xs := []) (len := 0) (cap := 0) (size := 0) rfl (Nat.le_refl _) (Nat.le_refl _)) (hk.src rfl) (one_bytes _) 200000000000000 (by simp only [List.length_map, List.length_nil]; omega) (by omega) (by repeat (first | exact PickS.last | exact PickS.one | exact PickS.here | exact PickS.nil | apply PickS.there | apply PickS.far)) (fun s1 Ls1 hs1 => ?_))
        rw [List.nil_append] at hs1
        refine TL.cons rfl (V1.t (V1.move' (by (conv => lhs; whnf) <;> rfl)) ?_)
        refine TL.cons rfl (T1.appendZ ty_22 ty_3 sz_5 by_5 zr_5 rfl rfl (by decide) rfl rfl hs1 1000 (by rw [List.length_map]; omega) (by omega) (by repeat (first | exact PickS.last | exact PickS.one | exact PickS.here | exact PickS.nil | apply PickS.there | apply PickS.far)) (fun s2 Ls2 hs2 => ?_))
        rw [show key.map byteV ++ List.replicate n (.int .u8 0) = (key ++ List.replicate n 0).map byteV from by rw [List.map_append, List.map_replicate]; rfl] at hs2
        refine TL.cons rfl (V1.t (V1.move' (by (conv => lhs; whnf) <;> rfl)) ?_)
        refine TL.cons rfl (T1.buildSl1 (os := [.tmp 43]) (vs := [.slice ma m.length mc]) ty_44 sz_22 zr_22 (by decide) rfl (.cons (by (conv => lhs; whnf) <;> rfl) .nil) rfl (ones rfl) (fun b44 => ?_))
        refine TL.cons rfl (T1.callX (X := (⟨b44, 0, [.slice ma m.length mc], 1⟩ :: Ls2 : List Blk)) has_25 rfl (mac_any _ _ _ (key ++ List.replicate n 0) [m] (⟨b44, 0, [.slice ma m.length mc], 1⟩ :: Ls2 : List Blk) (PartR.own hs2 (fun _ h => List.mem_cons_of_mem _ h)) (by rw [List.length_append, List.length_replicate]; omega) (PartsR.ones (svs := [.slice ma m.length mc]) (size := 1) (by simp) rfl (one_part (PartR.old hm))) (one_len (by omega)) (show 1 < 9223372036854775807 by decide) (by simp; omega)) (by repeat (first | exact Take.nil | apply Take.one (by repeat (first | exact Pick.here | apply Pick.there | apply Pick.far)) | apply Take.seg (by repeat (first | exact PickS.last | exact PickS.one | exact PickS.here | exact PickS.nil | apply PickS.there | apply PickS.far)) | exact Take.last (by repeat (first | exact PickS.last | exact PickS.one | exact PickS.here | exact PickS.nil | apply PickS.there | apply PickS.far)))) (fun v Y hY => ?_))
        obtain ⟨rfl, hzz⟩ := hY
        rw [hzz]
        simp only [List.cons_append, List.nil_append, List.append_assoc]
        rw [show ([m] : List (List UInt8)).flatten = m from by simp]
        refine TL.cons rfl (V1.t (V1.eqBs (r := true) ty_26 ty_5 sz_5 eg_26 rfl rfl (hmac_len _ _) (hmac_len _ _) (by rw [hmac_noughts hn64]; simp)) ?_)
        refine TL.cons rfl (V1.t (V1.assign' (by (conv => lhs; whnf) <;> rfl)) ?_)
        refine TL.nil ?_
        refine T.ret ?_
        exact ⟨_, [], _, .cons (.tmp (by (conv => lhs; whnf) <;> rfl)) .nil, Take.nil, rfl⟩

end Go.Proofs.Ytelcmllfojfbfaa.S
