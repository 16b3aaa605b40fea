/- Two hashes go on apart, one behind what both had alike. -/
import Derived.Test.YtelcmllfojfbfaaSB
namespace Go.Proofs.Ytelcmllfojfbfaa.S
open Go.RowKit

open Sh

set_option maxRecDepth 100000 in
set_option maxHeartbeats 4000000 in
theorem ShaApart_any (v0 v1 v2 : Value) (l0 l1 l2 : List UInt8) (w0 : World) (h0 : SlR w0 v0 1 l0.length (l0.map byteV)) (h1 : SlR w0 v1 1 l1.length (l1.map byteV)) (h2 : SlR w0 v2 1 l2.length (l2.map byteV)) : Fn P 14 [v0, v1, v2] w0 [] (fun v _ => v = .bool true) := by
  refine Fn.of 119 [.tmp 6] Go.Proofs.Try.func14 rfl rfl rfl rfl ?_
  refine T.seq ?_
  refine T.region ?_
  refine TL.cons rfl (V1.t (V1.assign' (by (conv => lhs; whnf) <;> rfl)) ?_)
  refine TL.nil ?_
  refine T.seq ?_
  refine T.seq ?_
  refine T.region ?_
  refine TL.cons rfl (T1.call0 has_17 rfl (fun w hs => small_any w) (fun v hv => ?_))
  subst hv
  refine TL.cons rfl (V1.t (V1.not rfl rfl) ?_)
  refine TL.cons rfl (V1.t (V1.move' (by (conv => lhs; whnf) <;> rfl)) ?_)
  refine TL.cons rfl (T1.call0 has_21 rfl (fun w hs => large_any w) (fun v hv => ?_))
  subst hv
  refine TL.cons rfl (V1.t (V1.not rfl rfl) ?_)
  refine TL.cons rfl (V1.t (V1.pick rfl (by (conv => lhs; whnf) <;> rfl)) ?_)
  refine TL.nil ?_
  refine T.cond_f rfl ?_
  refine T.skip ?_
  refine T.seq ?_
  refine T.region ?_
  refine TL.cons rfl (V1.t (V1.move' (by (conv => lhs; whnf) <;> rfl)) ?_)
  refine TL.cons rfl (T1.call0 has_18 rfl (fun w hs => cut_any w0 _ l0 300 w h0) (fun v hv0 => ?_))
  obtain ⟨m0, hm0⟩ : ∃ m, m = l0.take 300 := ⟨_, rfl⟩
  have hml0 : m0.length ≤ 300 := by rw [hm0, List.length_take]; omega
  rw [← hm0] at hv0
  obtain ⟨m0a, m0c, rfl⟩ := hv0.form
  refine TL.cons rfl (V1.t (V1.move' (by (conv => lhs; whnf) <;> rfl)) ?_)
  refine TL.cons rfl (T1.call0 has_18 rfl (fun w hs => cut_any w0 _ l1 300 w h1) (fun v hv1 => ?_))
  obtain ⟨m1, hm1⟩ : ∃ m, m = l1.take 300 := ⟨_, rfl⟩
  have hml1 : m1.length ≤ 300 := by rw [hm1, List.length_take]; omega
  rw [← hm1] at hv1
  obtain ⟨m1a, m1c, rfl⟩ := hv1.form
  refine TL.cons rfl (V1.t (V1.move' (by (conv => lhs; whnf) <;> rfl)) ?_)
  refine TL.cons rfl (T1.call0 has_18 rfl (fun w hs => cut_any w0 _ l2 300 w h2) (fun v hv2 => ?_))
  obtain ⟨m2, hm2⟩ : ∃ m, m = l2.take 300 := ⟨_, rfl⟩
  have hml2 : m2.length ≤ 300 := by rw [hm2, List.length_take]; omega
  rw [← hm2] at hv2
  obtain ⟨m2a, m2c, rfl⟩ := hv2.form
  refine TL.cons rfl (V1.t (V1.assign' (by (conv => lhs; whnf) <;> rfl)) ?_)
  refine TL.cons rfl (V1.t (V1.assign' (by (conv => lhs; whnf) <;> rfl)) ?_)
  refine TL.cons rfl (V1.t (V1.assign' (by (conv => lhs; whnf) <;> rfl)) ?_)
  refine TL.nil ?_
  refine T.seq ?_
  refine T.live (l := [(0, _), (1, _), (2, _)]) (.cons (by (conv => lhs; whnf) <;> rfl) (.cons (by (conv => lhs; whnf) <;> rfl) (.cons (by (conv => lhs; whnf) <;> rfl) .nil))) (fun e_ => ?_)
  refine T.region ?_
  refine TL.cons rfl (T1.callN has_35 rfl (fun w hs => New256_any w) (fun v X7 hY => ?_))
  obtain ⟨b7_, rfl, h_7⟩ := hY
  refine TL.cons rfl (T1.callN has_35 rfl (fun w hs => New256_any w) (fun v X8 hY => ?_))
  obtain ⟨b8_, rfl, h_8⟩ := hY
  refine TL.cons rfl (V1.t (V1.assign' (by (conv => lhs; whnf) <;> rfl)) ?_)
  refine TL.cons rfl (V1.t (V1.assign' (by (conv => lhs; whnf) <;> rfl)) ?_)
  refine TL.nil ?_
  refine T.seq ?_
  refine T.region ?_
  refine TL.cons rfl (T1.callN has_37 rfl (fun w hs => New512_any w) (fun v X9 hY => ?_))
  obtain ⟨b9_, rfl, h_9⟩ := hY
  refine TL.cons rfl (T1.callN has_37 rfl (fun w hs => New512_any w) (fun v X10 hY => ?_))
  obtain ⟨b10_, rfl, h_10⟩ := hY
  refine TL.cons rfl (V1.t (V1.assign' (by (conv => lhs; whnf) <;> rfl)) ?_)
  refine TL.cons rfl (V1.t (V1.assign' (by (conv => lhs; whnf) <;> rfl)) ?_)
  refine TL.nil ?_
  refine T.seq ?_
  refine T.seq ?_
  refine T.region ?_
  refine TL.cons rfl (V1.t (V1.move' (by (conv => lhs; whnf) <;> rfl)) ?_)
  refine TL.cons rfl (V1.t (V1.eqNil ty_40 rfl rfl) ?_)
  refine TL.cons rfl (V1.t (V1.move' (by (conv => lhs; whnf) <;> rfl)) ?_)
  refine TL.cons rfl (V1.t (V1.move' (by (conv => lhs; whnf) <;> rfl)) ?_)
  refine TL.cons rfl (V1.t (V1.eqNil ty_40 rfl rfl) ?_)
  refine TL.cons rfl (V1.t (V1.pick rfl (by (conv => lhs; whnf) <;> rfl)) ?_)
  refine TL.cons rfl (V1.t (V1.move' (by (conv => lhs; whnf) <;> rfl)) ?_)
  refine TL.cons rfl (V1.t (V1.move' (by (conv => lhs; whnf) <;> rfl)) ?_)
  refine TL.cons rfl (V1.t (V1.eqNil ty_66 rfl rfl) ?_)
  refine TL.cons rfl (V1.t (V1.pick rfl (by (conv => lhs; whnf) <;> rfl)) ?_)
  refine TL.cons rfl (V1.t (V1.move' (by (conv => lhs; whnf) <;> rfl)) ?_)
  refine TL.cons rfl (V1.t (V1.move' (by (conv => lhs; whnf) <;> rfl)) ?_)
  refine TL.cons rfl (V1.t (V1.eqNil ty_66 rfl rfl) ?_)
  refine TL.cons rfl (V1.t (V1.pick rfl (by (conv => lhs; whnf) <;> rfl)) ?_)
  refine TL.nil ?_
  refine T.cond_f rfl ?_
  refine T.skip ?_
  refine T.seq ?_
  refine T.live (l := [(0, _), (1, _), (2, _), (7, _), (8, _), (9, _), (10, _)]) (.cons (by (conv => lhs; whnf) <;> rfl) (.cons (by (conv => lhs; whnf) <;> rfl) (.cons (by (conv => lhs; whnf) <;> rfl) (.cons (by (conv => lhs; whnf) <;> rfl) (.cons (by (conv => lhs; whnf) <;> rfl) (.cons (by (conv => lhs; whnf) <;> rfl) (.cons (by (conv => lhs; whnf) <;> rfl) .nil))))))) (fun e_ => ?_)
  refine T.region ?_
  refine TL.cons rfl (V1.t (V1.move' (by (conv => lhs; whnf) <;> rfl)) ?_)
  refine TL.cons rfl (V1.t (V1.move' (by (conv => lhs; whnf) <;> rfl)) ?_)
  refine TL.cons rfl (T1.buildSl1 (os := [.tmp 42]) (vs := [.slice m0a m0.length m0c]) ty_44 sz_22 zr_22 (by decide) rfl (.cons (by (conv => lhs; whnf) <;> rfl) .nil) rfl (ones rfl) (fun bw8 => ?_))
  refine TL.cons rfl (T1.callX (X := X7 ++ ([⟨bw8, 0, [.slice m0a m0.length m0c], 1⟩] : List Blk)) has_28 rfl (Write256_any _ b7_ _ [] [m0] X7 [⟨bw8, 0, [.slice m0a m0.length m0c], 1⟩] h_7 (PartsR.ones (svs := [.slice m0a m0.length m0c]) (size := 1) (by simp) rfl (one_part (PartR.old hv0))) (one_len (by omega)) (show 1 < 9223372036854775807 by decide)) (by repeat (first | exact Take.nil | apply Take.one (by repeat (first | exact Pick.here | apply Pick.there | apply Pick.far)) | apply Take.seg (by repeat (first | exact PickS.last | exact PickS.one | exact PickS.here | exact PickS.nil | apply PickS.there | apply PickS.far)) | exact Take.last (by repeat (first | exact PickS.last | exact PickS.one | exact PickS.here | exact PickS.nil | apply PickS.there | apply PickS.far)))) (fun v2 Z hZ => ?_))
  obtain ⟨X7, h_7, rfl⟩ := hZ
  rw [show ([m0] : List (List UInt8)).flatten = m0 from by simp, List.nil_append] at h_7
  simp only [List.append_assoc, List.cons_append, List.nil_append]
  refine TL.nil ?_
  refine T.seq ?_
  refine T.region ?_
  refine TL.cons rfl (V1.t (V1.move' (by (conv => lhs; whnf) <;> rfl)) ?_)
  refine TL.cons rfl (V1.t (V1.move' (by (conv => lhs; whnf) <;> rfl)) ?_)
  refine TL.cons rfl (T1.buildSl1 (os := [.tmp 46]) (vs := [.slice m0a m0.length m0c]) ty_44 sz_22 zr_22 (by decide) rfl (.cons (by (conv => lhs; whnf) <;> rfl) .nil) rfl (ones rfl) (fun bw9 => ?_))
  refine TL.cons rfl (T1.callX (X := X8 ++ ([⟨bw9, 0, [.slice m0a m0.length m0c], 1⟩] : List Blk)) has_28 rfl (Write256_any _ b8_ _ [] [m0] X8 [⟨bw9, 0, [.slice m0a m0.length m0c], 1⟩] h_8 (PartsR.ones (svs := [.slice m0a m0.length m0c]) (size := 1) (by simp) rfl (one_part (PartR.old hv0))) (one_len (by omega)) (show 1 < 9223372036854775807 by decide)) (by repeat (first | exact Take.nil | apply Take.one (by repeat (first | exact Pick.here | apply Pick.there | apply Pick.far)) | apply Take.seg (by repeat (first | exact PickS.last | exact PickS.one | exact PickS.here | exact PickS.nil | apply PickS.there | apply PickS.far)) | exact Take.last (by repeat (first | exact PickS.last | exact PickS.one | exact PickS.here | exact PickS.nil | apply PickS.there | apply PickS.far)))) (fun v2 Z hZ => ?_))
  obtain ⟨X8, h_8, rfl⟩ := hZ
  rw [show ([m0] : List (List UInt8)).flatten = m0 from by simp, List.nil_append] at h_8
  simp only [List.append_assoc, List.cons_append, List.nil_append]
  refine TL.nil ?_
  refine T.seq ?_
  refine T.region ?_
  refine TL.cons rfl (V1.t (V1.move' (by (conv => lhs; whnf) <;> rfl)) ?_)
  refine TL.cons rfl (V1.t (V1.move' (by (conv => lhs; whnf) <;> rfl)) ?_)
  refine TL.cons rfl (T1.buildSl1 (os := [.tmp 50]) (vs := [.slice m0a m0.length m0c]) ty_44 sz_22 zr_22 (by decide) rfl (.cons (by (conv => lhs; whnf) <;> rfl) .nil) rfl (ones rfl) (fun bw10 => ?_))
  refine TL.cons rfl (T1.callX (X := X9 ++ ([⟨bw10, 0, [.slice m0a m0.length m0c], 1⟩] : List Blk)) has_38 rfl (Write512_any _ b9_ _ [] [m0] X9 [⟨bw10, 0, [.slice m0a m0.length m0c], 1⟩] h_9 (PartsR.ones (svs := [.slice m0a m0.length m0c]) (size := 1) (by simp) rfl (one_part (PartR.old hv0))) (one_len (by omega)) (show 1 < 9223372036854775807 by decide)) (by repeat (first | exact Take.nil | apply Take.one (by repeat (first | exact Pick.here | apply Pick.there | apply Pick.far)) | apply Take.seg (by repeat (first | exact PickS.last | exact PickS.one | exact PickS.here | exact PickS.nil | apply PickS.there | apply PickS.far)) | exact Take.last (by repeat (first | exact PickS.last | exact PickS.one | exact PickS.here | exact PickS.nil | apply PickS.there | apply PickS.far)))) (fun v2 Z hZ => ?_))
  obtain ⟨X9, h_9, rfl⟩ := hZ
  rw [show ([m0] : List (List UInt8)).flatten = m0 from by simp, List.nil_append] at h_9
  simp only [List.append_assoc, List.cons_append, List.nil_append]
  refine TL.nil ?_
  refine T.seq ?_
  refine T.region ?_
  refine TL.cons rfl (V1.t (V1.move' (by (conv => lhs; whnf) <;> rfl)) ?_)
  refine TL.cons rfl (V1.t (V1.move' (by (conv => lhs; whnf) <;> rfl)) ?_)
  refine TL.cons rfl (T1.buildSl1 (os := [.tmp 54]) (vs := [.slice m0a m0.length m0c]) ty_44 sz_22 zr_22 (by decide) rfl (.cons (by (conv => lhs; whnf) <;> rfl) .nil) rfl (ones rfl) (fun bw11 => ?_))
  refine TL.cons rfl (T1.callX (X := X10 ++ ([⟨bw11, 0, [.slice m0a m0.length m0c], 1⟩] : List Blk)) has_38 rfl (Write512_any _ b10_ _ [] [m0] X10 [⟨bw11, 0, [.slice m0a m0.length m0c], 1⟩] h_10 (PartsR.ones (svs := [.slice m0a m0.length m0c]) (size := 1) (by simp) rfl (one_part (PartR.old hv0))) (one_len (by omega)) (show 1 < 9223372036854775807 by decide)) (by repeat (first | exact Take.nil | apply Take.one (by repeat (first | exact Pick.here | apply Pick.there | apply Pick.far)) | apply Take.seg (by repeat (first | exact PickS.last | exact PickS.one | exact PickS.here | exact PickS.nil | apply PickS.there | apply PickS.far)) | exact Take.last (by repeat (first | exact PickS.last | exact PickS.one | exact PickS.here | exact PickS.nil | apply PickS.there | apply PickS.far)))) (fun v2 Z hZ => ?_))
  obtain ⟨X10, h_10, rfl⟩ := hZ
  rw [show ([m0] : List (List UInt8)).flatten = m0 from by simp, List.nil_append] at h_10
  simp only [List.append_assoc, List.cons_append, List.nil_append]
  refine TL.nil ?_
  refine T.seq ?_
  refine T.seq ?_
  refine T.live (l := [(0, _), (1, _), (2, _), (7, _), (8, _), (9, _), (10, _)]) (.cons (by (conv => lhs; whnf) <;> rfl) (.cons (by (conv => lhs; whnf) <;> rfl) (.cons (by (conv => lhs; whnf) <;> rfl) (.cons (by (conv => lhs; whnf) <;> rfl) (.cons (by (conv => lhs; whnf) <;> rfl) (.cons (by (conv => lhs; whnf) <;> rfl) (.cons (by (conv => lhs; whnf) <;> rfl) .nil))))))) (fun e_ => ?_)
  refine T.region ?_
  refine TL.cons rfl (V1.t (V1.move' (by (conv => lhs; whnf) <;> rfl)) ?_)
  refine TL.cons rfl (T1.callX (X := X7) has_36 rfl (HSum256_any _ b7_ (m0) X7 h_7 (by omega)) (by repeat (first | exact Take.nil | apply Take.one (by repeat (first | exact Pick.here | apply Pick.there | apply Pick.far)) | apply Take.seg (by repeat (first | exact PickS.last | exact PickS.one | exact PickS.here | exact PickS.nil | apply PickS.there | apply PickS.far)) | exact Take.last (by repeat (first | exact PickS.last | exact PickS.one | exact PickS.here | exact PickS.nil | apply PickS.there | apply PickS.far)))) (fun v3 Z hZ => ?_))
  obtain ⟨rfl, hzz⟩ := hZ
  rw [hzz]
  refine TL.cons rfl (V1.t (V1.move' (by (conv => lhs; whnf) <;> rfl)) ?_)
  refine TL.cons rfl (T1.callX (X := X8) has_36 rfl (HSum256_any _ b8_ (m0) X8 h_8 (by omega)) (by repeat (first | exact Take.nil | apply Take.one (by repeat (first | exact Pick.here | apply Pick.there | apply Pick.far)) | apply Take.seg (by repeat (first | exact PickS.last | exact PickS.one | exact PickS.here | exact PickS.nil | apply PickS.there | apply PickS.far)) | exact Take.last (by repeat (first | exact PickS.last | exact PickS.one | exact PickS.here | exact PickS.nil | apply PickS.there | apply PickS.far)))) (fun v3 Z hZ => ?_))
  obtain ⟨rfl, hzz⟩ := hZ
  rw [hzz]
  refine TL.cons rfl (V1.t (V1.neBs (r := false) ty_26 ty_5 sz_5 eg_26 rfl rfl (sha_len _ _) (sha_len _ _) (by simp)) ?_)
  refine TL.cons rfl (V1.t (V1.move' (by (conv => lhs; whnf) <;> rfl)) ?_)
  refine TL.cons rfl (V1.t (V1.move' (by (conv => lhs; whnf) <;> rfl)) ?_)
  refine TL.cons rfl (T1.callX (X := X9) has_39 rfl (HSum512_any _ b9_ (m0) X9 h_9 (by omega)) (by repeat (first | exact Take.nil | apply Take.one (by repeat (first | exact Pick.here | apply Pick.there | apply Pick.far)) | apply Take.seg (by repeat (first | exact PickS.last | exact PickS.one | exact PickS.here | exact PickS.nil | apply PickS.there | apply PickS.far)) | exact Take.last (by repeat (first | exact PickS.last | exact PickS.one | exact PickS.here | exact PickS.nil | apply PickS.there | apply PickS.far)))) (fun v3 Z hZ => ?_))
  obtain ⟨rfl, hzz⟩ := hZ
  rw [hzz]
  refine TL.cons rfl (V1.t (V1.move' (by (conv => lhs; whnf) <;> rfl)) ?_)
  refine TL.cons rfl (T1.callX (X := X10) has_39 rfl (HSum512_any _ b10_ (m0) X10 h_10 (by omega)) (by repeat (first | exact Take.nil | apply Take.one (by repeat (first | exact Pick.here | apply Pick.there | apply Pick.far)) | apply Take.seg (by repeat (first | exact PickS.last | exact PickS.one | exact PickS.here | exact PickS.nil | apply PickS.there | apply PickS.far)) | exact Take.last (by repeat (first | exact PickS.last | exact PickS.one | exact PickS.here | exact PickS.nil | apply PickS.there | apply PickS.far)))) (fun v3 Z hZ => ?_))
  obtain ⟨rfl, hzz⟩ := hZ
  rw [hzz]
  refine TL.cons rfl (V1.t (V1.neBs (r := false) ty_31 ty_5 sz_5 eg_31 rfl rfl (sha_len _ _) (sha_len _ _) (by simp)) ?_)
  refine TL.cons rfl (V1.t (V1.pick rfl (by (conv => lhs; whnf) <;> rfl)) ?_)
  refine TL.nil ?_
  refine T.cond_f rfl ?_
  refine T.skip ?_
  refine T.seq ?_
  refine T.region ?_
  refine TL.cons rfl (V1.t (V1.move' (by (conv => lhs; whnf) <;> rfl)) ?_)
  refine TL.cons rfl (V1.t (V1.move' (by (conv => lhs; whnf) <;> rfl)) ?_)
  refine TL.cons rfl (T1.buildSl1 (os := [.tmp 70]) (vs := [.slice m1a m1.length m1c]) ty_44 sz_22 zr_22 (by decide) rfl (.cons (by (conv => lhs; whnf) <;> rfl) .nil) rfl (ones rfl) (fun bw14 => ?_))
  refine TL.cons rfl (T1.callX (X := X7 ++ ([⟨bw14, 0, [.slice m1a m1.length m1c], 1⟩] : List Blk)) has_28 rfl (Write256_any _ b7_ _ m0 [m1] X7 [⟨bw14, 0, [.slice m1a m1.length m1c], 1⟩] h_7 (PartsR.ones (svs := [.slice m1a m1.length m1c]) (size := 1) (by simp) rfl (one_part (PartR.old hv1))) (one_len (by omega)) (show 1 < 9223372036854775807 by decide)) (by repeat (first | exact Take.nil | apply Take.one (by repeat (first | exact Pick.here | apply Pick.there | apply Pick.far)) | apply Take.seg (by repeat (first | exact PickS.last | exact PickS.one | exact PickS.here | exact PickS.nil | apply PickS.there | apply PickS.far)) | exact Take.last (by repeat (first | exact PickS.last | exact PickS.one | exact PickS.here | exact PickS.nil | apply PickS.there | apply PickS.far)))) (fun v2 Z hZ => ?_))
  obtain ⟨X7, h_7, rfl⟩ := hZ
  rw [show ([m1] : List (List UInt8)).flatten = m1 from by simp] at h_7
  simp only [List.append_assoc, List.cons_append, List.nil_append]
  refine TL.nil ?_
  refine T.seq ?_
  refine T.live (l := [(0, _), (1, _), (2, _), (7, _), (8, _), (9, _), (10, _)]) (.cons (by (conv => lhs; whnf) <;> rfl) (.cons (by (conv => lhs; whnf) <;> rfl) (.cons (by (conv => lhs; whnf) <;> rfl) (.cons (by (conv => lhs; whnf) <;> rfl) (.cons (by (conv => lhs; whnf) <;> rfl) (.cons (by (conv => lhs; whnf) <;> rfl) (.cons (by (conv => lhs; whnf) <;> rfl) .nil))))))) (fun e_ => ?_)
  refine T.region ?_
  refine TL.cons rfl (V1.t (V1.move' (by (conv => lhs; whnf) <;> rfl)) ?_)
  refine TL.cons rfl (V1.t (V1.move' (by (conv => lhs; whnf) <;> rfl)) ?_)
  refine TL.cons rfl (T1.buildSl1 (os := [.tmp 74]) (vs := [.slice m2a m2.length m2c]) ty_44 sz_22 zr_22 (by decide) rfl (.cons (by (conv => lhs; whnf) <;> rfl) .nil) rfl (ones rfl) (fun bw15 => ?_))
  refine TL.cons rfl (T1.callX (X := X8 ++ ([⟨bw15, 0, [.slice m2a m2.length m2c], 1⟩] : List Blk)) has_28 rfl (Write256_any _ b8_ _ m0 [m2] X8 [⟨bw15, 0, [.slice m2a m2.length m2c], 1⟩] h_8 (PartsR.ones (svs := [.slice m2a m2.length m2c]) (size := 1) (by simp) rfl (one_part (PartR.old hv2))) (one_len (by omega)) (show 1 < 9223372036854775807 by decide)) (by repeat (first | exact Take.nil | apply Take.one (by repeat (first | exact Pick.here | apply Pick.there | apply Pick.far)) | apply Take.seg (by repeat (first | exact PickS.last | exact PickS.one | exact PickS.here | exact PickS.nil | apply PickS.there | apply PickS.far)) | exact Take.last (by repeat (first | exact PickS.last | exact PickS.one | exact PickS.here | exact PickS.nil | apply PickS.there | apply PickS.far)))) (fun v2 Z hZ => ?_))
  obtain ⟨X8, h_8, rfl⟩ := hZ
  rw [show ([m2] : List (List UInt8)).flatten = m2 from by simp] at h_8
  simp only [List.append_assoc, List.cons_append, List.nil_append]
  refine TL.nil ?_
  refine T.seq ?_
  refine T.region ?_
  refine TL.cons rfl (V1.t (V1.move' (by (conv => lhs; whnf) <;> rfl)) ?_)
  refine TL.cons rfl (V1.t (V1.move' (by (conv => lhs; whnf) <;> rfl)) ?_)
  refine TL.cons rfl (T1.buildSl1 (os := [.tmp 78]) (vs := [.slice m1a m1.length m1c]) ty_44 sz_22 zr_22 (by decide) rfl (.cons (by (conv => lhs; whnf) <;> rfl) .nil) rfl (ones rfl) (fun bw16 => ?_))
  refine TL.cons rfl (T1.callX (X := X9 ++ ([⟨bw16, 0, [.slice m1a m1.length m1c], 1⟩] : List Blk)) has_38 rfl (Write512_any _ b9_ _ m0 [m1] X9 [⟨bw16, 0, [.slice m1a m1.length m1c], 1⟩] h_9 (PartsR.ones (svs := [.slice m1a m1.length m1c]) (size := 1) (by simp) rfl (one_part (PartR.old hv1))) (one_len (by omega)) (show 1 < 9223372036854775807 by decide)) (by repeat (first | exact Take.nil | apply Take.one (by repeat (first | exact Pick.here | apply Pick.there | apply Pick.far)) | apply Take.seg (by repeat (first | exact PickS.last | exact PickS.one | exact PickS.here | exact PickS.nil | apply PickS.there | apply PickS.far)) | exact Take.last (by repeat (first | exact PickS.last | exact PickS.one | exact PickS.here | exact PickS.nil | apply PickS.there | apply PickS.far)))) (fun v2 Z hZ => ?_))
  obtain ⟨X9, h_9, rfl⟩ := hZ
  rw [show ([m1] : List (List UInt8)).flatten = m1 from by simp] at h_9
  simp only [List.append_assoc, List.cons_append, List.nil_append]
  refine TL.nil ?_
  refine T.seq ?_
  refine T.region ?_
  refine TL.cons rfl (V1.t (V1.move' (by (conv => lhs; whnf) <;> rfl)) ?_)
  refine TL.cons rfl (V1.t (V1.move' (by (conv => lhs; whnf) <;> rfl)) ?_)
  refine TL.cons rfl (T1.buildSl1 (os := [.tmp 82]) (vs := [.slice m2a m2.length m2c]) ty_44 sz_22 zr_22 (by decide) rfl (.cons (by (conv => lhs; whnf) <;> rfl) .nil) rfl (ones rfl) (fun bw17 => ?_))
  refine TL.cons rfl (T1.callX (X := X10 ++ ([⟨bw17, 0, [.slice m2a m2.length m2c], 1⟩] : List Blk)) has_38 rfl (Write512_any _ b10_ _ m0 [m2] X10 [⟨bw17, 0, [.slice m2a m2.length m2c], 1⟩] h_10 (PartsR.ones (svs := [.slice m2a m2.length m2c]) (size := 1) (by simp) rfl (one_part (PartR.old hv2))) (one_len (by omega)) (show 1 < 9223372036854775807 by decide)) (by repeat (first | exact Take.nil | apply Take.one (by repeat (first | exact Pick.here | apply Pick.there | apply Pick.far)) | apply Take.seg (by repeat (first | exact PickS.last | exact PickS.one | exact PickS.here | exact PickS.nil | apply PickS.there | apply PickS.far)) | exact Take.last (by repeat (first | exact PickS.last | exact PickS.one | exact PickS.here | exact PickS.nil | apply PickS.there | apply PickS.far)))) (fun v2 Z hZ => ?_))
  obtain ⟨X10, h_10, rfl⟩ := hZ
  rw [show ([m2] : List (List UInt8)).flatten = m2 from by simp] at h_10
  simp only [List.append_assoc, List.cons_append, List.nil_append]
  refine TL.nil ?_
  refine T.seq ?_
  refine T.region ?_
  refine TL.cons rfl (V1.t (V1.move' (by (conv => lhs; whnf) <;> rfl)) ?_)
  refine TL.cons rfl (T1.callX (X := X7) has_36 rfl (HSum256_any _ b7_ (m0 ++ m1) X7 h_7 (by simp only [List.length_append]; omega)) (by repeat (first | exact Take.nil | apply Take.one (by repeat (first | exact Pick.here | apply Pick.there | apply Pick.far)) | apply Take.seg (by repeat (first | exact PickS.last | exact PickS.one | exact PickS.here | exact PickS.nil | apply PickS.there | apply PickS.far)) | exact Take.last (by repeat (first | exact PickS.last | exact PickS.one | exact PickS.here | exact PickS.nil | apply PickS.there | apply PickS.far)))) (fun v3 Z hZ => ?_))
  obtain ⟨rfl, hzz⟩ := hZ
  rw [hzz]
  refine TL.cons rfl (V1.t (V1.move' (by (conv => lhs; whnf) <;> rfl)) ?_)
  refine TL.cons rfl (V1.t (V1.move' (by (conv => lhs; whnf) <;> rfl)) ?_)
  refine TL.cons rfl (T1.buildSl1 (os := [.tmp 87, .tmp 88]) (vs := [.slice m0a m0.length m0c, .slice m1a m1.length m1c]) ty_44 sz_22 zr_22 (by decide) rfl (.cons (by (conv => lhs; whnf) <;> rfl) (.cons (by (conv => lhs; whnf) <;> rfl) .nil)) rfl (ones rfl) (fun bs4 => ?_))
  refine TL.cons rfl (T1.callX (X := [⟨bs4, 0, [.slice m0a m0.length m0c, .slice m1a m1.length m1c], 2⟩]) has_19 rfl (Sum256_any _ _ [m0, m1] [⟨bs4, 0, [.slice m0a m0.length m0c, .slice m1a m1.length m1c], 2⟩] (PartsR.ones (svs := [.slice m0a m0.length m0c, .slice m1a m1.length m1c]) (size := 2) (by simp) rfl (two_parts (PartR.old hv0) (PartR.old hv1))) (two_len (by omega) (by omega)) (show 2 < 9223372036854775807 by decide) (by simp; omega)) (by repeat (first | exact Take.nil | apply Take.one (by repeat (first | exact Pick.here | apply Pick.there | apply Pick.far)) | apply Take.seg (by repeat (first | exact PickS.last | exact PickS.one | exact PickS.here | exact PickS.nil | apply PickS.there | apply PickS.far)) | exact Take.last (by repeat (first | exact PickS.last | exact PickS.one | exact PickS.here | exact PickS.nil | apply PickS.there | apply PickS.far)))) (fun v Y hY => ?_))
  obtain ⟨rfl, rfl⟩ := hY
  dsimp only [List.cons_append, List.nil_append]
  rw [show ([m0, m1] : List (List UInt8)).flatten = m0 ++ m1 from by simp]
  refine TL.cons rfl (V1.t (V1.eqBs (r := true) ty_26 ty_5 sz_5 eg_26 rfl rfl (sha_len _ _) (sha_len _ _) (by simp)) ?_)
  refine TL.cons rfl (V1.t (V1.move' (by (conv => lhs; whnf) <;> rfl)) ?_)
  refine TL.cons rfl (V1.t (V1.move' (by (conv => lhs; whnf) <;> rfl)) ?_)
  refine TL.cons rfl (T1.callX (X := X8) has_36 rfl (HSum256_any _ b8_ (m0 ++ m2) X8 h_8 (by simp only [List.length_append]; omega)) (by repeat (first | exact Take.nil | apply Take.one (by repeat (first | exact Pick.here | apply Pick.there | apply Pick.far)) | apply Take.seg (by repeat (first | exact PickS.last | exact PickS.one | exact PickS.here | exact PickS.nil | apply PickS.there | apply PickS.far)) | exact Take.last (by repeat (first | exact PickS.last | exact PickS.one | exact PickS.here | exact PickS.nil | apply PickS.there | apply PickS.far)))) (fun v3 Z hZ => ?_))
  obtain ⟨rfl, hzz⟩ := hZ
  rw [hzz]
  refine TL.cons rfl (V1.t (V1.move' (by (conv => lhs; whnf) <;> rfl)) ?_)
  refine TL.cons rfl (V1.t (V1.move' (by (conv => lhs; whnf) <;> rfl)) ?_)
  refine TL.cons rfl (T1.buildSl1 (os := [.tmp 95, .tmp 96]) (vs := [.slice m0a m0.length m0c, .slice m2a m2.length m2c]) ty_44 sz_22 zr_22 (by decide) rfl (.cons (by (conv => lhs; whnf) <;> rfl) (.cons (by (conv => lhs; whnf) <;> rfl) .nil)) rfl (ones rfl) (fun bs12 => ?_))
  refine TL.cons rfl (T1.callX (X := [⟨bs12, 0, [.slice m0a m0.length m0c, .slice m2a m2.length m2c], 2⟩]) has_19 rfl (Sum256_any _ _ [m0, m2] [⟨bs12, 0, [.slice m0a m0.length m0c, .slice m2a m2.length m2c], 2⟩] (PartsR.ones (svs := [.slice m0a m0.length m0c, .slice m2a m2.length m2c]) (size := 2) (by simp) rfl (two_parts (PartR.old hv0) (PartR.old hv2))) (two_len (by omega) (by omega)) (show 2 < 9223372036854775807 by decide) (by simp; omega)) (by repeat (first | exact Take.nil | apply Take.one (by repeat (first | exact Pick.here | apply Pick.there | apply Pick.far)) | apply Take.seg (by repeat (first | exact PickS.last | exact PickS.one | exact PickS.here | exact PickS.nil | apply PickS.there | apply PickS.far)) | exact Take.last (by repeat (first | exact PickS.last | exact PickS.one | exact PickS.here | exact PickS.nil | apply PickS.there | apply PickS.far)))) (fun v Y hY => ?_))
  obtain ⟨rfl, rfl⟩ := hY
  dsimp only [List.cons_append, List.nil_append]
  rw [show ([m0, m2] : List (List UInt8)).flatten = m0 ++ m2 from by simp]
  refine TL.cons rfl (V1.t (V1.eqBs (r := true) ty_26 ty_5 sz_5 eg_26 rfl rfl (sha_len _ _) (sha_len _ _) (by simp)) ?_)
  refine TL.cons rfl (V1.t (V1.pick rfl (by (conv => lhs; whnf) <;> rfl)) ?_)
  refine TL.cons rfl (V1.t (V1.move' (by (conv => lhs; whnf) <;> rfl)) ?_)
  refine TL.cons rfl (V1.t (V1.move' (by (conv => lhs; whnf) <;> rfl)) ?_)
  refine TL.cons rfl (T1.callX (X := X9) has_39 rfl (HSum512_any _ b9_ (m0 ++ m1) X9 h_9 (by simp only [List.length_append]; omega)) (by repeat (first | exact Take.nil | apply Take.one (by repeat (first | exact Pick.here | apply Pick.there | apply Pick.far)) | apply Take.seg (by repeat (first | exact PickS.last | exact PickS.one | exact PickS.here | exact PickS.nil | apply PickS.there | apply PickS.far)) | exact Take.last (by repeat (first | exact PickS.last | exact PickS.one | exact PickS.here | exact PickS.nil | apply PickS.there | apply PickS.far)))) (fun v3 Z hZ => ?_))
  obtain ⟨rfl, hzz⟩ := hZ
  rw [hzz]
  refine TL.cons rfl (V1.t (V1.move' (by (conv => lhs; whnf) <;> rfl)) ?_)
  refine TL.cons rfl (V1.t (V1.move' (by (conv => lhs; whnf) <;> rfl)) ?_)
  refine TL.cons rfl (T1.buildSl1 (os := [.tmp 104, .tmp 105]) (vs := [.slice m0a m0.length m0c, .slice m1a m1.length m1c]) ty_44 sz_22 zr_22 (by decide) rfl (.cons (by (conv => lhs; whnf) <;> rfl) (.cons (by (conv => lhs; whnf) <;> rfl) .nil)) rfl (ones rfl) (fun bs21 => ?_))
  refine TL.cons rfl (T1.callX (X := [⟨bs21, 0, [.slice m0a m0.length m0c, .slice m1a m1.length m1c], 2⟩]) has_22 rfl (Sum512_any _ _ [m0, m1] [⟨bs21, 0, [.slice m0a m0.length m0c, .slice m1a m1.length m1c], 2⟩] (PartsR.ones (svs := [.slice m0a m0.length m0c, .slice m1a m1.length m1c]) (size := 2) (by simp) rfl (two_parts (PartR.old hv0) (PartR.old hv1))) (two_len (by omega) (by omega)) (show 2 < 9223372036854775807 by decide) (by simp; omega)) (by repeat (first | exact Take.nil | apply Take.one (by repeat (first | exact Pick.here | apply Pick.there | apply Pick.far)) | apply Take.seg (by repeat (first | exact PickS.last | exact PickS.one | exact PickS.here | exact PickS.nil | apply PickS.there | apply PickS.far)) | exact Take.last (by repeat (first | exact PickS.last | exact PickS.one | exact PickS.here | exact PickS.nil | apply PickS.there | apply PickS.far)))) (fun v Y hY => ?_))
  obtain ⟨rfl, rfl⟩ := hY
  dsimp only [List.cons_append, List.nil_append]
  rw [show ([m0, m1] : List (List UInt8)).flatten = m0 ++ m1 from by simp]
  refine TL.cons rfl (V1.t (V1.eqBs (r := true) ty_31 ty_5 sz_5 eg_31 rfl rfl (sha_len _ _) (sha_len _ _) (by simp)) ?_)
  refine TL.cons rfl (V1.t (V1.pick rfl (by (conv => lhs; whnf) <;> rfl)) ?_)
  refine TL.cons rfl (V1.t (V1.move' (by (conv => lhs; whnf) <;> rfl)) ?_)
  refine TL.cons rfl (V1.t (V1.move' (by (conv => lhs; whnf) <;> rfl)) ?_)
  refine TL.cons rfl (T1.callX (X := X10) has_39 rfl (HSum512_any _ b10_ (m0 ++ m2) X10 h_10 (by simp only [List.length_append]; omega)) (by repeat (first | exact Take.nil | apply Take.one (by repeat (first | exact Pick.here | apply Pick.there | apply Pick.far)) | apply Take.seg (by repeat (first | exact PickS.last | exact PickS.one | exact PickS.here | exact PickS.nil | apply PickS.there | apply PickS.far)) | exact Take.last (by repeat (first | exact PickS.last | exact PickS.one | exact PickS.here | exact PickS.nil | apply PickS.there | apply PickS.far)))) (fun v3 Z hZ => ?_))
  obtain ⟨rfl, hzz⟩ := hZ
  rw [hzz]
  refine TL.cons rfl (V1.t (V1.move' (by (conv => lhs; whnf) <;> rfl)) ?_)
  refine TL.cons rfl (V1.t (V1.move' (by (conv => lhs; whnf) <;> rfl)) ?_)
  refine TL.cons rfl (T1.buildSl1 (os := [.tmp 113, .tmp 114]) (vs := [.slice m0a m0.length m0c, .slice m2a m2.length m2c]) ty_44 sz_22 zr_22 (by decide) rfl (.cons (by (conv => lhs; whnf) <;> rfl) (.cons (by (conv => lhs; whnf) <;> rfl) .nil)) rfl (ones rfl) (fun bs30 => ?_))
  refine TL.cons rfl (T1.callX (X := [⟨bs30, 0, [.slice m0a m0.length m0c, .slice m2a m2.length m2c], 2⟩]) has_22 rfl (Sum512_any _ _ [m0, m2] [⟨bs30, 0, [.slice m0a m0.length m0c, .slice m2a m2.length m2c], 2⟩] (PartsR.ones (svs := [.slice m0a m0.length m0c, .slice m2a m2.length m2c]) (size := 2) (by simp) rfl (two_parts (PartR.old hv0) (PartR.old hv2))) (two_len (by omega) (by omega)) (show 2 < 9223372036854775807 by decide) (by simp; omega)) (by repeat (first | exact Take.nil | apply Take.one (by repeat (first | exact Pick.here | apply Pick.there | apply Pick.far)) | apply Take.seg (by repeat (first | exact PickS.last | exact PickS.one | exact PickS.here | exact PickS.nil | apply PickS.there | apply PickS.far)) | exact Take.last (by repeat (first | exact PickS.last | exact PickS.one | exact PickS.here | exact PickS.nil | apply PickS.there | apply PickS.far)))) (fun v Y hY => ?_))
  obtain ⟨rfl, rfl⟩ := hY
  dsimp only [List.cons_append, List.nil_append]
  rw [show ([m0, m2] : List (List UInt8)).flatten = m0 ++ m2 from by simp]
  refine TL.cons rfl (V1.t (V1.eqBs (r := true) ty_31 ty_5 sz_5 eg_31 rfl rfl (sha_len _ _) (sha_len _ _) (by simp)) ?_)
  refine TL.cons rfl (V1.t (V1.pick rfl (by (conv => lhs; whnf) <;> rfl)) ?_)
  refine TL.cons rfl (V1.t (V1.assign' (by (conv => lhs; whnf) <;> rfl)) ?_)
  refine TL.nil ?_
  refine T.ret ?_
  exact ⟨_, [], _, .cons (.tmp (by (conv => lhs; whnf) <;> rfl)) .nil, Take.nil, rfl⟩

end Go.Proofs.Ytelcmllfojfbfaa.S
