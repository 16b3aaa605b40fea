/- So many bytes are made of a key as the document makes them. -/
import Derived.Test.YtelcmllfojfbfaaM6
namespace Go.Proofs.Ytelcmllfojfbfaa.S
open Go.RowKit

open Sh

set_option maxRecDepth 100000 in
set_option maxHeartbeats 4000000 in
theorem refExpand_any (key info : List UInt8) (nn : Int) (w : World) (hkl : key.length = 32) (hfl : info.length ≤ 199999999990000) : Fn P 34 [.agg (key.map byteV).toArray, .int .i64 nn, .string (bstr info)] w [] (fun v Y => Y = [] ∧ v = if nn < 0 ∨ 8160 < nn then .tuple #[.string (bstr []), .int .i64 1] else .tuple #[.string (bstr (expB key info nn.toNat)), .int .i64 0]) := by
  refine Fn.of 41 [.tmp 6, .tmp 7] Go.Proofs.Try.func34 rfl rfl rfl rfl ?_
  refine T.seq ?_
  refine T.region ?_
  refine TL.cons rfl (T1.boxN (vs := key.map byteV) 32 rfl (by rw [List.length_map]; exact hkl) (fun b3 => ?_))
  refine TL.cons rfl (V1.t (V1.assign' (by (conv => lhs; whnf) <;> rfl)) ?_)
  refine TL.cons rfl (V1.t (V1.assign' (by (conv => lhs; whnf) <;> rfl)) ?_)
  refine TL.nil ?_
  refine T.seq ?_
  refine T.seq ?_
  refine T.region ?_
  refine TL.cons rfl (V1.t (V1.move' (by (conv => lhs; whnf) <;> rfl)) ?_)
  refine TL.cons rfl (T1.ltI_split rfl rfl (fun h1_1 => ?_) (fun h1_1 => ?_))
  ·
    refine TL.cons rfl (V1.t (V1.move' (by (conv => lhs; whnf) <;> rfl)) ?_)
    refine TL.no rfl ?_
    refine TL.no rfl ?_
    refine TL.cons rfl (V1.t (V1.pick rfl (by (conv => lhs; whnf) <;> rfl)) ?_)
    refine TL.nil ?_
    refine T.cond_t rfl ?_
    refine T.seq ?_
    refine T.region ?_
    refine TL.cons rfl (V1.t (V1.assign' (by (conv => lhs; whnf) <;> rfl)) ?_)
    refine TL.cons rfl (V1.t (V1.assign' (by (conv => lhs; whnf) <;> rfl)) ?_)
    refine TL.nil ?_
    refine T.ret ?_
    exact ⟨_, [], _, .cons (.tmp (by (conv => lhs; whnf) <;> rfl)) (.cons (.tmp (by (conv => lhs; whnf) <;> rfl)) .nil), Take.nil, rfl, by rw [if_pos (by omega)]; rfl⟩
  ·
    refine TL.cons rfl (V1.t (V1.move' (by (conv => lhs; whnf) <;> rfl)) ?_)
    refine TL.cons rfl (V1.t (V1.move' (by (conv => lhs; whnf) <;> rfl)) ?_)
    refine TL.cons rfl (T1.gtI_split rfl rfl (fun h1_4 => ?_) (fun h1_4 => ?_))
    ·
      refine TL.cons rfl (V1.t (V1.pick rfl (by (conv => lhs; whnf) <;> rfl)) ?_)
      refine TL.nil ?_
      refine T.cond_t rfl ?_
      refine T.seq ?_
      refine T.region ?_
      refine TL.cons rfl (V1.t (V1.assign' (by (conv => lhs; whnf) <;> rfl)) ?_)
      refine TL.cons rfl (V1.t (V1.assign' (by (conv => lhs; whnf) <;> rfl)) ?_)
      refine TL.nil ?_
      refine T.ret ?_
      exact ⟨_, [], _, .cons (.tmp (by (conv => lhs; whnf) <;> rfl)) (.cons (.tmp (by (conv => lhs; whnf) <;> rfl)) .nil), Take.nil, rfl, by rw [if_pos (by omega)]; rfl⟩
    ·
      obtain ⟨n, rfl⟩ : ∃ n : Nat, nn = (n : Int) := ⟨nn.toNat, by omega⟩
      have hn8 : n ≤ 8160 := by omega
      refine TL.cons rfl (V1.t (V1.pick rfl (by (conv => lhs; whnf) <;> rfl)) ?_)
      refine TL.nil ?_
      refine T.cond_f rfl ?_
      refine T.skip ?_
      refine T.seq ?_
      refine T.region ?_
      refine TL.cons rfl (V1.t (V1.assign' (by (conv => lhs; whnf) <;> rfl)) ?_)
      refine TL.cons rfl (V1.t (V1.assign' (by (conv => lhs; whnf) <;> rfl)) ?_)
      refine TL.nil ?_
      refine T.seq ?_
      refine T.seq ?_
      refine T.region ?_
      refine TL.cons rfl (V1.t (V1.assign' (by (conv => lhs; whnf) <;> rfl)) ?_)
      refine TL.nil ?_
      refine T.block ?_
      refine T.loopL (σ := Nat) (l0 := [(1, _), (2, _), (3, _)]) (fun x => [(10, .int .i64 ((x + 1 : Nat) : Int)), (8, .string (bstr (exS key info x).1)), (9, .string (bstr (exS key info x).2))]) (fun x L => L = ⟨b3, 0, key.map byteV, 32⟩ :: [] ∧ (x = 0 ∨ 32 * x < n + 32)) (fun x => 256 - x) 0 (.cons rfl (.cons rfl (.cons rfl .nil))) (.cons (by (conv => lhs; whnf) <;> rfl) (.cons (by (conv => lhs; whnf) <;> rfl) (.cons (by (conv => lhs; whnf) <;> rfl) .nil))) (by repeat (first | exact Take.nil | apply Take.one (by repeat (first | exact Pick.here | apply Pick.there | apply Pick.far)) | apply Take.seg (by repeat (first | exact PickS.last | exact PickS.one | exact PickS.here | exact PickS.nil | apply PickS.there | apply PickS.far)) | exact Take.last (by repeat (first | exact PickS.last | exact PickS.one | exact PickS.here | exact PickS.nil | apply PickS.there | apply PickS.far)))) (⟨rfl, .inl rfl⟩) ?_
      rintro i e_ L ⟨rfl, hi⟩
      have hol := (exS_len key info i).1
      have hll := (exS_len key info i).2
      refine T.seq ?_
      refine T.seq ?_
      refine T.region ?_
      refine TL.cons rfl (V1.t (V1.move' (by (conv => lhs; whnf) <;> rfl)) ?_)
      refine TL.cons rfl (V1.t (V1.lenS ty_9 rfl) ?_)
      refine TL.cons rfl (V1.t (V1.move' (by (conv => lhs; whnf) <;> rfl)) ?_)
      refine TL.cons rfl (T1.ltI_split rfl rfl (fun h5_3 => ?_) (fun h5_3 => ?_))
      ·
        rw [bstr_size, hol] at h5_3
        refine TL.nil ?_
        refine T.cond_t rfl ?_
        refine T.skip ?_
        refine T.seq ?_
        refine T.block ?_
        refine T.seq ?_
        refine T.drawK (fun L_ => Find L_ ⟨b3, 0, key.map byteV, 32⟩) mixed (by repeat (first | exact Find.here | assumption | apply Find.there | apply Find.far)) ?_
        refine TK.take 0 rfl (by decide +kernel) (by decide +kernel) (by decide +kernel) rfl (fun _ _ _ h => h) (fun L_ k1_ => V1.loadN one_26 sz_26 rfl (RdN.whole (cells := key.map byteV) (by repeat (first | exact Find.here | assumption | apply Find.there | apply Find.far))) (by rw [List.length_map]; exact hkl)) ?_
        refine TK.take 2 rfl (by decide +kernel) (by decide +kernel) (by decide +kernel) rfl (fun _ _ _ h => h) (fun L_ k1_ => V1.move' (by (conv => lhs; whnf) <;> rfl)) ?_
        refine TK.take 3 rfl (by decide +kernel) (by decide +kernel) (by decide +kernel) rfl (fun _ _ _ h => h) (fun L_ k1_ => V1.move' (by (conv => lhs; whnf) <;> rfl)) ?_
        refine TK.take 4 rfl (by decide +kernel) (by decide +kernel) (by decide +kernel) rfl (fun _ _ _ h => h) (fun L_ k1_ => V1.addB rfl rfl (by omega)) ?_
        refine TK.take 5 rfl (by decide +kernel) (by decide +kernel) (by decide +kernel) rfl (fun _ _ _ h => h) (fun L_ k1_ => V1.move' (by (conv => lhs; whnf) <;> rfl)) ?_
        refine TK.take 6 rfl (by decide +kernel) (by decide +kernel) (by decide +kernel) rfl (fun _ _ _ h => h) (fun L_ k1_ => V1.convN (a := i + 1) 8 u8U ty_3 ty_5 rfl) ?_
        refine TK.two 1 7 (by decide +kernel) rfl rfl rfl rfl (T1.call0 has_44 rfl (fun w hs => reftext_any key w hkl) (fun v hv => ?_)) (T1.buildSl1 (os := [.tmp 29]) (vs := [byteV (UInt8.ofNat (i + 1))]) ty_22 sz_5 zr_5 (by decide) rfl (.cons rfl .nil) rfl (ones rfl) (fun b30 => ?_))
        ·
          subst hv
          refine ⟨(by repeat (first | exact Find.here | assumption | apply Find.there | apply Find.far)), ?_⟩
          refine TK.one 7 (by decide +kernel) rfl rfl (T1.buildSl1 (os := [.tmp 29]) (vs := [byteV (UInt8.ofNat (i + 1))]) ty_22 sz_5 zr_5 (by decide) rfl (.cons rfl .nil) rfl (ones rfl) (fun b30 => ?_))
          refine ⟨(by repeat (first | exact Find.here | assumption | apply Find.there | apply Find.far)), ?_⟩
          refine TK.one 8 (by decide +kernel) rfl rfl (V1.t (V1.bytesToStr (l := [(UInt8.ofNat (i + 1))]) ty_22 ty_5 ty_9 rfl (.sl (n := 1) (RdN.at0 (cells := [byteV (UInt8.ofNat (i + 1))]) (by repeat (first | exact Find.here | assumption | apply Find.there | apply Find.far))) rfl) (by intro b h; cases h)) ?_)
          refine ⟨(by repeat (first | exact Find.here | assumption | apply Find.there | apply Find.far)), ?_⟩
          refine TK.take 9 rfl (by decide +kernel) (by decide +kernel) (by decide +kernel) rfl (fun _ _ _ h => h) (fun L_ k1_ => V1.addB rfl rfl (by rw [List.length_append, List.length_singleton]; omega)) ?_
          refine TK.one 10 (by decide +kernel) rfl rfl (T1.call0 has_26 rfl (fun w hs => refmac_any key ((exS key info i).2 ++ info ++ [(UInt8.ofNat (i + 1))]) w (by omega) (by rw [List.length_append, List.length_append, List.length_singleton]; omega)) (fun v hv => ?_))
          subst hv
          refine ⟨(by repeat (first | exact Find.here | assumption | apply Find.there | apply Find.far)), ?_⟩
          refine TK.one 11 (by decide +kernel) rfl rfl (T1.call0 has_44 rfl (fun w hs => reftext_any (hmac key ((exS key info i).2 ++ info ++ [(UInt8.ofNat (i + 1))])) w (hmac_len _ _)) (fun v hv => ?_))
          subst hv
          refine ⟨(by repeat (first | exact Find.here | assumption | apply Find.there | apply Find.far)), ?_⟩
          refine TK.take 12 rfl (by decide +kernel) (by decide +kernel) (by decide +kernel) rfl (fun _ _ _ h => h) (fun L_ k1_ => V1.assign' (by (conv => lhs; whnf) <;> rfl)) ?_
          refine TD.done (by decide +kernel) ?_
          refine T.live (l := [(1, _), (2, _), (3, _), (8, _), (9, _), (10, _)]) (.cons (by (conv => lhs; whnf) <;> rfl) (.cons (by (conv => lhs; whnf) <;> rfl) (.cons (by (conv => lhs; whnf) <;> rfl) (.cons (by (conv => lhs; whnf) <;> rfl) (.cons (by (conv => lhs; whnf) <;> rfl) (.cons (by (conv => lhs; whnf) <;> rfl) .nil)))))) (fun e_ => ?_)
          refine T.region ?_
          refine TL.cons rfl (V1.t (V1.move' (by (conv => lhs; whnf) <;> rfl)) ?_)
          refine TL.cons rfl (V1.t (V1.move' (by (conv => lhs; whnf) <;> rfl)) ?_)
          refine TL.cons rfl (V1.t (V1.addB rfl rfl (by rw [hol, hmac_len]; omega)) ?_)
          refine TL.cons rfl (V1.t (V1.assign' (by (conv => lhs; whnf) <;> rfl)) ?_)
          refine TL.nil ?_
          refine T.region ?_
          refine TL.cons rfl (V1.t (V1.move' (by (conv => lhs; whnf) <;> rfl)) ?_)
          refine TL.cons rfl (V1.t (V1.add (c := ((i + 1 + 1 : Nat) : Int)) rfl rfl (by rw [wrap_i64 _ (by omega) (by omega)]; omega)) ?_)
          refine TL.cons rfl (V1.t (V1.assign' (by (conv => lhs; whnf) <;> rfl)) ?_)
          refine TL.nil ?_
          exact ⟨i + 1, _, _, (by simp only; omega), (.cons rfl (.cons rfl (.cons rfl .nil))), (.cons rfl (.cons rfl (.cons rfl .nil))), (by repeat (first | exact Take.nil | apply Take.one (by repeat (first | exact Pick.here | apply Pick.there | apply Pick.far)) | apply Take.seg (by repeat (first | exact PickS.last | exact PickS.one | exact PickS.here | exact PickS.nil | apply PickS.there | apply PickS.far)) | exact Take.last (by repeat (first | exact PickS.last | exact PickS.one | exact PickS.here | exact PickS.nil | apply PickS.there | apply PickS.far)))), ⟨rfl, .inr (by omega)⟩⟩
        ·
          refine ⟨(by repeat (first | exact Find.here | assumption | apply Find.there | apply Find.far)), ?_⟩
          refine TK.two 1 8 (by decide +kernel) rfl rfl rfl rfl (T1.call0 has_44 rfl (fun w hs => reftext_any key w hkl) (fun v hv => ?_)) (V1.t (V1.bytesToStr (l := [(UInt8.ofNat (i + 1))]) ty_22 ty_5 ty_9 rfl (.sl (n := 1) (RdN.at0 (cells := [byteV (UInt8.ofNat (i + 1))]) (by repeat (first | exact Find.here | assumption | apply Find.there | apply Find.far))) rfl) (by intro b h; cases h)) ?_)
          ·
            subst hv
            refine ⟨(by repeat (first | exact Find.here | assumption | apply Find.there | apply Find.far)), ?_⟩
            refine TK.one 8 (by decide +kernel) rfl rfl (V1.t (V1.bytesToStr (l := [(UInt8.ofNat (i + 1))]) ty_22 ty_5 ty_9 rfl (.sl (n := 1) (RdN.at0 (cells := [byteV (UInt8.ofNat (i + 1))]) (by repeat (first | exact Find.here | assumption | apply Find.there | apply Find.far))) rfl) (by intro b h; cases h)) ?_)
            refine ⟨(by repeat (first | exact Find.here | assumption | apply Find.there | apply Find.far)), ?_⟩
            refine TK.take 9 rfl (by decide +kernel) (by decide +kernel) (by decide +kernel) rfl (fun _ _ _ h => h) (fun L_ k1_ => V1.addB rfl rfl (by rw [List.length_append, List.length_singleton]; omega)) ?_
            refine TK.one 10 (by decide +kernel) rfl rfl (T1.call0 has_26 rfl (fun w hs => refmac_any key ((exS key info i).2 ++ info ++ [(UInt8.ofNat (i + 1))]) w (by omega) (by rw [List.length_append, List.length_append, List.length_singleton]; omega)) (fun v hv => ?_))
            subst hv
            refine ⟨(by repeat (first | exact Find.here | assumption | apply Find.there | apply Find.far)), ?_⟩
            refine TK.one 11 (by decide +kernel) rfl rfl (T1.call0 has_44 rfl (fun w hs => reftext_any (hmac key ((exS key info i).2 ++ info ++ [(UInt8.ofNat (i + 1))])) w (hmac_len _ _)) (fun v hv => ?_))
            subst hv
            refine ⟨(by repeat (first | exact Find.here | assumption | apply Find.there | apply Find.far)), ?_⟩
            refine TK.take 12 rfl (by decide +kernel) (by decide +kernel) (by decide +kernel) rfl (fun _ _ _ h => h) (fun L_ k1_ => V1.assign' (by (conv => lhs; whnf) <;> rfl)) ?_
            refine TD.done (by decide +kernel) ?_
            refine T.live (l := [(1, _), (2, _), (3, _), (8, _), (9, _), (10, _)]) (.cons (by (conv => lhs; whnf) <;> rfl) (.cons (by (conv => lhs; whnf) <;> rfl) (.cons (by (conv => lhs; whnf) <;> rfl) (.cons (by (conv => lhs; whnf) <;> rfl) (.cons (by (conv => lhs; whnf) <;> rfl) (.cons (by (conv => lhs; whnf) <;> rfl) .nil)))))) (fun e_ => ?_)
            refine T.region ?_
            refine TL.cons rfl (V1.t (V1.move' (by (conv => lhs; whnf) <;> rfl)) ?_)
            refine TL.cons rfl (V1.t (V1.move' (by (conv => lhs; whnf) <;> rfl)) ?_)
            refine TL.cons rfl (V1.t (V1.addB rfl rfl (by rw [hol, hmac_len]; omega)) ?_)
            refine TL.cons rfl (V1.t (V1.assign' (by (conv => lhs; whnf) <;> rfl)) ?_)
            refine TL.nil ?_
            refine T.region ?_
            refine TL.cons rfl (V1.t (V1.move' (by (conv => lhs; whnf) <;> rfl)) ?_)
            refine TL.cons rfl (V1.t (V1.add (c := ((i + 1 + 1 : Nat) : Int)) rfl rfl (by rw [wrap_i64 _ (by omega) (by omega)]; omega)) ?_)
            refine TL.cons rfl (V1.t (V1.assign' (by (conv => lhs; whnf) <;> rfl)) ?_)
            refine TL.nil ?_
            exact ⟨i + 1, _, _, (by simp only; omega), (.cons rfl (.cons rfl (.cons rfl .nil))), (.cons rfl (.cons rfl (.cons rfl .nil))), (by repeat (first | exact Take.nil | apply Take.one (by repeat (first | exact Pick.here | apply Pick.there | apply Pick.far)) | apply Take.seg (by repeat (first | exact PickS.last | exact PickS.one | exact PickS.here | exact PickS.nil | apply PickS.there | apply PickS.far)) | exact Take.last (by repeat (first | exact PickS.last | exact PickS.one | exact PickS.here | exact PickS.nil | apply PickS.there | apply PickS.far)))), ⟨rfl, .inr (by omega)⟩⟩
          ·
            refine ⟨(by repeat (first | exact Find.here | assumption | apply Find.there | apply Find.far)), ?_⟩
            refine TK.take 9 rfl (by decide +kernel) (by decide +kernel) (by decide +kernel) rfl (fun _ _ _ h => h) (fun L_ k1_ => V1.addB rfl rfl (by rw [List.length_append, List.length_singleton]; omega)) ?_
            refine TK.one 1 (by decide +kernel) rfl rfl (T1.call0 has_44 rfl (fun w hs => reftext_any key w hkl) (fun v hv => ?_))
            subst hv
            refine ⟨(by repeat (first | exact Find.here | assumption | apply Find.there | apply Find.far)), ?_⟩
            refine TK.one 10 (by decide +kernel) rfl rfl (T1.call0 has_26 rfl (fun w hs => refmac_any key ((exS key info i).2 ++ info ++ [(UInt8.ofNat (i + 1))]) w (by omega) (by rw [List.length_append, List.length_append, List.length_singleton]; omega)) (fun v hv => ?_))
            subst hv
            refine ⟨(by repeat (first | exact Find.here | assumption | apply Find.there | apply Find.far)), ?_⟩
            refine TK.one 11 (by decide +kernel) rfl rfl (T1.call0 has_44 rfl (fun w hs => reftext_any (hmac key ((exS key info i).2 ++ info ++ [(UInt8.ofNat (i + 1))])) w (hmac_len _ _)) (fun v hv => ?_))
            subst hv
            refine ⟨(by repeat (first | exact Find.here | assumption | apply Find.there | apply Find.far)), ?_⟩
            refine TK.take 12 rfl (by decide +kernel) (by decide +kernel) (by decide +kernel) rfl (fun _ _ _ h => h) (fun L_ k1_ => V1.assign' (by (conv => lhs; whnf) <;> rfl)) ?_
            refine TD.done (by decide +kernel) ?_
            refine T.live (l := [(1, _), (2, _), (3, _), (8, _), (9, _), (10, _)]) (.cons (by (conv => lhs; whnf) <;> rfl) (.cons (by (conv => lhs; whnf) <;> rfl) (.cons (by (conv => lhs; whnf) <;> rfl) (.cons (by (conv => lhs; whnf) <;> rfl) (.cons (by (conv => lhs; whnf) <;> rfl) (.cons (by (conv => lhs; whnf) <;> rfl) .nil)))))) (fun e_ => ?_)
            refine T.region ?_
            refine TL.cons rfl (V1.t (V1.move' (by (conv => lhs; whnf) <;> rfl)) ?_)
            refine TL.cons rfl (V1.t (V1.move' (by (conv => lhs; whnf) <;> rfl)) ?_)
            refine TL.cons rfl (V1.t (V1.addB rfl rfl (by rw [hol, hmac_len]; omega)) ?_)
            refine TL.cons rfl (V1.t (V1.assign' (by (conv => lhs; whnf) <;> rfl)) ?_)
            refine TL.nil ?_
            refine T.region ?_
            refine TL.cons rfl (V1.t (V1.move' (by (conv => lhs; whnf) <;> rfl)) ?_)
            refine TL.cons rfl (V1.t (V1.add (c := ((i + 1 + 1 : Nat) : Int)) rfl rfl (by rw [wrap_i64 _ (by omega) (by omega)]; omega)) ?_)
            refine TL.cons rfl (V1.t (V1.assign' (by (conv => lhs; whnf) <;> rfl)) ?_)
            refine TL.nil ?_
            exact ⟨i + 1, _, _, (by simp only; omega), (.cons rfl (.cons rfl (.cons rfl .nil))), (.cons rfl (.cons rfl (.cons rfl .nil))), (by repeat (first | exact Take.nil | apply Take.one (by repeat (first | exact Pick.here | apply Pick.there | apply Pick.far)) | apply Take.seg (by repeat (first | exact PickS.last | exact PickS.one | exact PickS.here | exact PickS.nil | apply PickS.there | apply PickS.far)) | exact Take.last (by repeat (first | exact PickS.last | exact PickS.one | exact PickS.here | exact PickS.nil | apply PickS.there | apply PickS.far)))), ⟨rfl, .inr (by omega)⟩⟩
      ·
        rw [bstr_size, hol] at h5_3
        have hin : i = (n + 31) / 32 := by omega
        refine TL.nil ?_
        refine T.cond_f rfl ?_
        refine T.exit ?_
        refine T.seq ?_
        refine T.region ?_
        refine TL.cons rfl (V1.t (V1.move' (by (conv => lhs; whnf) <;> rfl)) ?_)
        refine TL.cons rfl (V1.t (V1.move' (by (conv => lhs; whnf) <;> rfl)) ?_)
        refine TL.cons rfl (V1.t (V1.sliceB (s := (exS key info i).1) 0 n ty_9 rfl rfl rfl (Nat.zero_le _) (by omega)) ?_)
        refine TL.cons rfl (V1.t (V1.assign' (by (conv => lhs; whnf) <;> rfl)) ?_)
        refine TL.cons rfl (V1.t (V1.assign' (by (conv => lhs; whnf) <;> rfl)) ?_)
        refine TL.nil ?_
        refine T.ret ?_
        exact ⟨_, [], _, .cons (.tmp (by (conv => lhs; whnf) <;> rfl)) (.cons (.tmp (by (conv => lhs; whnf) <;> rfl)) .nil), Take.nil, rfl, by rw [if_neg (by omega), hin]; simp only [Nat.sub_zero, List.drop_zero]; rfl⟩

set_option maxRecDepth 100000 in
set_option maxHeartbeats 8000000 in
theorem MacExpands_any (v2 : Value) (key info : List UInt8) (nn : Int) (w0 : World) (hkl : key.length = 32) (hi : SlR w0 v2 1 info.length (info.map byteV)) : Fn P 9 [.agg (key.map byteV).toArray, .int .i64 nn, v2] w0 [] (fun v _ => v = .bool true) := by
  obtain ⟨ia, ic, rfl⟩ := hi.form
  obtain ⟨i2, hi2d⟩ : ∃ z, z = info.take 100 := ⟨_, rfl⟩
  have hi2l : i2.length ≤ 100 := by rw [hi2d, List.length_take]; omega
  have hi2 := slV_is hi 0 (min info.length 100) (Nat.zero_le _) (Nat.min_le_left _ _)
  rw [Nat.sub_zero, List.drop_zero, show info.take (min info.length 100) = i2 from by rw [hi2d, List.take_eq_take_iff]; omega] at hi2
  replace hi2 : SlR w0 (slV ia ic 0 (min info.length 100)) 1 i2.length (i2.map byteV) := by rw [show i2.length = min info.length 100 from by rw [hi2d, List.length_take, Nat.min_comm]]; exact hi2
  obtain ⟨ia2, ic2, hi2e⟩ := hi2.form
  rw [hi2e] at hi2
  have hfi := slV_is hi2 0 (i2.length / 2) (Nat.zero_le _) (by omega)
  have hba := slV_is hi2 (i2.length / 2) i2.length (by omega) (Nat.le_refl _)
  rw [Nat.sub_zero, List.drop_zero] at hfi
  rw [List.take_of_length_le (show (i2.drop (i2.length / 2)).length ≤ i2.length - i2.length / 2 by rw [List.length_drop]; exact Nat.le_refl _)] at hba
  replace hfi : SlR w0 (slV ia2 ic2 0 (i2.length / 2)) 1 (i2.take (i2.length / 2)).length ((i2.take (i2.length / 2)).map byteV) := by rw [List.length_take, Nat.min_eq_left (by omega)]; exact hfi
  replace hba : SlR w0 (slV ia2 ic2 (i2.length / 2) i2.length) 1 (i2.drop (i2.length / 2)).length ((i2.drop (i2.length / 2)).map byteV) := by rw [List.length_drop]; exact hba
  obtain ⟨fa, fc, hfe⟩ := hfi.form
  rw [hfe] at hfi
  obtain ⟨ba, bc, hbe⟩ := hba.form
  rw [hbe] at hba
  have hfl1 : (i2.take (i2.length / 2)).length ≤ 100 := by rw [List.length_take]; omega
  have hfl2 : (i2.drop (i2.length / 2)).length ≤ 100 := by rw [List.length_drop]; omega
  refine Fn.of 58 [.tmp 6] Go.Proofs.Try.func9 rfl rfl rfl rfl ?_
  refine T.seq ?_
  refine T.region ?_
  refine TL.cons rfl (T1.boxN (vs := key.map byteV) 32 rfl (by rw [List.length_map]; exact hkl) (fun b3 => ?_))
  refine TL.cons rfl (V1.t (V1.assign' (by (conv => lhs; whnf) <;> rfl)) ?_)
  refine TL.nil ?_
  refine T.seq ?_
  refine T.seq ?_
  refine T.region ?_
  refine TL.cons rfl (T1.call0 has_24 rfl (fun w hs => known_any w) (fun v hv => ?_))
  subst hv
  refine TL.cons rfl (V1.t (V1.not rfl rfl) ?_)
  refine TL.nil ?_
  refine T.cond_f rfl ?_
  refine T.skip ?_
  refine T.seq ?_
  refine T.region ?_
  refine TL.cons rfl (V1.t (V1.move' (by (conv => lhs; whnf) <;> rfl)) ?_)
  refine TL.cons rfl (V1.t (V1.move' (by (conv => lhs; whnf) <;> rfl)) ?_)
  refine TL.cons rfl (V1.t (V1.lenSl ty_22 rfl) ?_)
  refine TL.cons rfl (V1.t (V1.min2 (c := ((min info.length 100 : Nat) : Int)) rfl rfl (by omega)) ?_)
  refine TL.cons rfl ((V1.t (show V1 _ _ _ _ (.slice ia2 i2.length ic2) from by rw [← hi2e]; exact V1.sliceR1 ty_22 sz_5 hi rfl (0) (min info.length 100) rfl rfl (by omega) (by omega)) ?_))
  refine TL.cons rfl (V1.t (V1.assign' (by (conv => lhs; whnf) <;> rfl)) ?_)
  refine TL.nil ?_
  refine T.seq ?_
  refine T.seq ?_
  refine T.region ?_
  refine TL.cons rfl (V1.t (V1.move' (by (conv => lhs; whnf) <;> rfl)) ?_)
  refine TL.cons rfl (T1.gtI_split rfl rfl (fun h4_1 => ?_) (fun h4_1 => ?_))
  ·
    refine TL.cons rfl (V1.t (V1.move' (by (conv => lhs; whnf) <;> rfl)) ?_)
    refine TL.cons rfl (V1.t (V1.move' (by (conv => lhs; whnf) <;> rfl)) ?_)
    refine TL.cons rfl (T1.leI_split rfl rfl (fun h4_4 => ?_) (fun h4_4 => ?_))
    ·
      refine TL.cons rfl (V1.t (V1.pick rfl (by (conv => lhs; whnf) <;> rfl)) ?_)
      refine TL.nil ?_
      refine T.cond_t rfl ?_
      refine T.live (l := [(2, _), (3, _)]) (.cons (by (conv => lhs; whnf) <;> rfl) (.cons (by (conv => lhs; whnf) <;> rfl) .nil)) (fun e_ => ?_)
      refine T.region ?_
      refine TL.cons rfl (V1.t (V1.assign' (by (conv => lhs; whnf) <;> rfl)) ?_)
      refine TL.nil ?_
      refine T.seq ?_
      refine T.drawK (fun L_ => Find L_ ⟨b3, 0, key.map byteV, 32⟩) mixed (by repeat (first | exact Find.here | assumption | apply Find.there | apply Find.far)) ?_
      refine TK.take 0 rfl (by decide +kernel) (by decide +kernel) (by decide +kernel) rfl (fun _ _ _ h => h) (fun L_ k1_ => V1.loadN one_26 sz_26 rfl (RdN.whole (cells := key.map byteV) (by repeat (first | exact Find.here | assumption | apply Find.there | apply Find.far))) (by rw [List.length_map]; exact hkl)) ?_
      refine TK.take 1 rfl (by decide +kernel) (by decide +kernel) (by decide +kernel) rfl (fun _ _ _ h => h) (fun L_ k1_ => V1.move' (by (conv => lhs; whnf) <;> rfl)) ?_
      refine TK.take 2 rfl (by decide +kernel) (by decide +kernel) (by decide +kernel) rfl (fun _ _ _ h => h) (fun L_ k1_ => V1.move' (by (conv => lhs; whnf) <;> rfl)) ?_
      refine TK.take 3 rfl (by decide +kernel) (by decide +kernel) (by decide +kernel) rfl (fun _ _ _ h => h) (fun L_ k1_ => V1.move' (by (conv => lhs; whnf) <;> rfl)) ?_
      refine TK.take 4 rfl (by decide +kernel) (by decide +kernel) (by decide +kernel) rfl (fun _ _ _ h => h) (fun L_ k1_ => V1.lenSl ty_22 rfl) ?_
      refine TK.take 5 rfl (by decide +kernel) (by decide +kernel) (by decide +kernel) rfl (fun _ _ _ h => h) (fun L_ k1_ => V1.quo (c := ((i2.length / 2 : Nat) : Int)) rfl rfl (by decide) (by rw [show ((i2.length : Int).tdiv 2) = ((i2.length / 2 : Nat) : Int) from tquoN _ 2]; exact wrap_i64 _ (by omega) (by omega))) ?_
      refine TK.take 6 rfl (by decide +kernel) (by decide +kernel) (by decide +kernel) rfl (fun _ _ _ h => h) (fun L_ k1_ => show V1 _ _ _ _ (.slice fa (i2.take (i2.length / 2)).length fc) from by rw [← hfe]; exact V1.sliceR1 ty_22 sz_5 hi2 rfl (0) (i2.length / 2) rfl rfl (by omega) (by omega)) ?_
      refine TK.take 7 rfl (by decide +kernel) (by decide +kernel) (by decide +kernel) rfl (fun _ _ _ h => h) (fun L_ k1_ => V1.move' (by (conv => lhs; whnf) <;> rfl)) ?_
      refine TK.take 8 rfl (by decide +kernel) (by decide +kernel) (by decide +kernel) rfl (fun _ _ _ h => h) (fun L_ k1_ => V1.move' (by (conv => lhs; whnf) <;> rfl)) ?_
      refine TK.take 9 rfl (by decide +kernel) (by decide +kernel) (by decide +kernel) rfl (fun _ _ _ h => h) (fun L_ k1_ => V1.lenSl ty_22 rfl) ?_
      refine TK.take 10 rfl (by decide +kernel) (by decide +kernel) (by decide +kernel) rfl (fun _ _ _ h => h) (fun L_ k1_ => V1.quo (c := ((i2.length / 2 : Nat) : Int)) rfl rfl (by decide) (by rw [show ((i2.length : Int).tdiv 2) = ((i2.length / 2 : Nat) : Int) from tquoN _ 2]; exact wrap_i64 _ (by omega) (by omega))) ?_
      refine TK.take 11 rfl (by decide +kernel) (by decide +kernel) (by decide +kernel) rfl (fun _ _ _ h => h) (fun L_ k1_ => show V1 _ _ _ _ (.slice ba (i2.drop (i2.length / 2)).length bc) from by rw [← hbe]; exact V1.sliceR1 ty_22 sz_5 hi2 rfl (i2.length / 2) (i2.length) rfl rfl (by omega) (by omega)) ?_
      refine TK.one 12 (by decide +kernel) rfl rfl (T1.buildSl1 (os := [.tmp 31, .tmp 36]) (vs := [.slice fa (i2.take (i2.length / 2)).length fc, .slice ba (i2.drop (i2.length / 2)).length bc]) ty_44 sz_22 zr_22 (by decide) rfl (.cons (by (conv => lhs; whnf) <;> rfl) (.cons (by (conv => lhs; whnf) <;> rfl) .nil)) rfl (ones rfl) (fun b37 => ?_))
      refine ⟨(by repeat (first | exact Find.here | assumption | apply Find.there | apply Find.far)), ?_⟩
      refine TK.one 13 (by decide +kernel) rfl rfl (T1.callX (X := ([⟨b37, 0, [.slice fa (i2.take (i2.length / 2)).length fc, .slice ba (i2.drop (i2.length / 2)).length bc], 2⟩] : List Blk)) has_33 rfl (Expand_any _ _ key i2 400 [i2.take (i2.length / 2), i2.drop (i2.length / 2)] ([⟨b37, 0, [.slice fa (i2.take (i2.length / 2)).length fc, .slice ba (i2.drop (i2.length / 2)).length bc], 2⟩] : List Blk) hkl (by simp) (PartsR.ones (svs := [.slice fa (i2.take (i2.length / 2)).length fc, .slice ba (i2.drop (i2.length / 2)).length bc]) (size := 2) (by simp) rfl (two_parts (PartR.old hfi) (PartR.old hba))) (two_len (by omega) (by omega)) (show 2 < 9223372036854775807 by decide) (by omega)) (by repeat (first | exact Take.nil | apply Take.one (by repeat (first | exact Pick.here | apply Pick.there | apply Pick.far)) | apply Take.seg (by repeat (first | exact PickS.last | exact PickS.one | exact PickS.here | exact PickS.nil | apply PickS.there | apply PickS.far)) | exact Take.last (by repeat (first | exact PickS.last | exact PickS.one | exact PickS.here | exact PickS.nil | apply PickS.there | apply PickS.far)))) (fun v Y hY => ?_))
      rcases hY with ⟨hbad, rfl, rfl⟩ | ⟨n, so, Ls, hnn, hn8, rfl, hso, rfl⟩
      ·
        simp only [List.cons_append, List.nil_append]
        refine ⟨(by repeat (first | exact Find.here | assumption | apply Find.there | apply Find.far)), ?_⟩
        refine TK.take 14 rfl (by decide +kernel) (by decide +kernel) (by decide +kernel) rfl (fun _ _ _ h => h) (fun L_ k1_ => V1.move' (by (conv => lhs; whnf) <;> rfl)) ?_
        refine TK.take 15 rfl (by decide +kernel) (by decide +kernel) (by decide +kernel) rfl (fun _ _ _ h => h) (fun L_ k1_ => V1.extract rfl (by rfl)) ?_
        refine TK.take 16 rfl (by decide +kernel) (by decide +kernel) (by decide +kernel) rfl (fun _ _ _ h => h) (fun L_ k1_ => V1.extract rfl (by rfl)) ?_
        refine TK.take 17 rfl (by decide +kernel) (by decide +kernel) (by decide +kernel) rfl (fun _ _ _ h => h) (fun L_ k1_ => V1.assign' (by (conv => lhs; whnf) <;> rfl)) ?_
        refine TK.take 18 rfl (by decide +kernel) (by decide +kernel) (by decide +kernel) rfl (fun _ _ _ h => h) (fun L_ k1_ => V1.assign' (by (conv => lhs; whnf) <;> rfl)) ?_
        refine TD.done (by decide +kernel) ?_
        refine T.seq ?_
        refine T.live (l := [(1, _), (2, _), (3, _), (7, _), (8, _)]) (.cons (by (conv => lhs; whnf) <;> rfl) (.cons (by (conv => lhs; whnf) <;> rfl) (.cons (by (conv => lhs; whnf) <;> rfl) (.cons (by (conv => lhs; whnf) <;> rfl) (.cons (by (conv => lhs; whnf) <;> rfl) .nil))))) (fun e_ => ?_)
        refine T.region ?_
        refine TL.cons rfl (V1.t (V1.loadN one_26 sz_26 rfl (RdN.whole (cells := key.map byteV) (by repeat (first | exact Find.here | assumption | apply Find.there | apply Find.far))) (by rw [List.length_map]; exact hkl)) ?_)
        refine TL.cons rfl (V1.t (V1.move' (by (conv => lhs; whnf) <;> rfl)) ?_)
        refine TL.cons rfl (V1.t (V1.move' (by (conv => lhs; whnf) <;> rfl)) ?_)
        refine TL.cons rfl (V1.t (V1.bytesToStr (l := i2) ty_22 ty_5 ty_9 rfl (hi2.src rfl) (by intro b h; cases h)) ?_)
        refine TL.cons rfl (T1.call0 has_34 rfl (fun w hs => refExpand_any key i2 400 w hkl (by omega)) (fun v hv => ?_))
        rw [if_pos hbad] at hv
        subst hv
        refine TL.cons rfl (V1.t (V1.move' (by (conv => lhs; whnf) <;> rfl)) ?_)
        refine TL.cons rfl (V1.t (V1.extract rfl (by rfl)) ?_)
        refine TL.cons rfl (V1.t (V1.extract rfl (by rfl)) ?_)
        refine TL.cons rfl (V1.t (V1.assign' (by (conv => lhs; whnf) <;> rfl)) ?_)
        refine TL.cons rfl (V1.t (V1.assign' (by (conv => lhs; whnf) <;> rfl)) ?_)
        refine TL.nil ?_
        refine T.seq ?_
        refine T.region ?_
        refine TL.cons rfl (V1.t (V1.move' (by (conv => lhs; whnf) <;> rfl)) ?_)
        refine TL.cons rfl (V1.t (V1.bytesToStr (l := []) ty_22 ty_5 ty_9 rfl .nil (by intro b h; cases h)) ?_)
        refine TL.cons rfl (V1.t (V1.move' (by (conv => lhs; whnf) <;> rfl)) ?_)
        refine TL.cons rfl (V1.t (V1.eqS (r := true) rfl rfl (by simp)) ?_)
        refine TL.cons rfl (V1.t (V1.move' (by (conv => lhs; whnf) <;> rfl)) ?_)
        refine TL.cons rfl (V1.t (V1.move' (by (conv => lhs; whnf) <;> rfl)) ?_)
        refine TL.cons rfl (V1.t (V1.move' (by (conv => lhs; whnf) <;> rfl)) ?_)
        refine TL.cons rfl (V1.t (V1.eqI (r := true) rfl rfl (by simp)) ?_)
        refine TL.cons rfl (V1.t (V1.pick rfl (by (conv => lhs; whnf) <;> rfl)) ?_)
        refine TL.cons rfl (V1.t (V1.assign' (by (conv => lhs; whnf) <;> rfl)) ?_)
        refine TL.nil ?_
        refine T.ret ?_
        exact ⟨_, [], _, .cons (.tmp (by (conv => lhs; whnf) <;> rfl)) .nil, Take.nil, rfl⟩
      ·
        simp only [List.cons_append, List.nil_append, List.append_assoc]
        refine ⟨(by repeat (first | exact Find.here | assumption | apply Find.there | apply Find.far)), ?_⟩
        refine TK.take 14 rfl (by decide +kernel) (by decide +kernel) (by decide +kernel) rfl (fun _ _ _ h => h) (fun L_ k1_ => V1.move' (by (conv => lhs; whnf) <;> rfl)) ?_
        refine TK.take 15 rfl (by decide +kernel) (by decide +kernel) (by decide +kernel) rfl (fun _ _ _ h => h) (fun L_ k1_ => V1.extract rfl (by rfl)) ?_
        refine TK.take 16 rfl (by decide +kernel) (by decide +kernel) (by decide +kernel) rfl (fun _ _ _ h => h) (fun L_ k1_ => V1.extract rfl (by rfl)) ?_
        refine TK.take 17 rfl (by decide +kernel) (by decide +kernel) (by decide +kernel) rfl (fun _ _ _ h => h) (fun L_ k1_ => V1.assign' (by (conv => lhs; whnf) <;> rfl)) ?_
        refine TK.take 18 rfl (by decide +kernel) (by decide +kernel) (by decide +kernel) rfl (fun _ _ _ h => h) (fun L_ k1_ => V1.assign' (by (conv => lhs; whnf) <;> rfl)) ?_
        refine TD.done (by decide +kernel) ?_
        refine T.seq ?_
        refine T.live (l := [(1, _), (2, _), (3, _), (7, _), (8, _)]) (.cons (by (conv => lhs; whnf) <;> rfl) (.cons (by (conv => lhs; whnf) <;> rfl) (.cons (by (conv => lhs; whnf) <;> rfl) (.cons (by (conv => lhs; whnf) <;> rfl) (.cons (by (conv => lhs; whnf) <;> rfl) .nil))))) (fun e_ => ?_)
        refine T.region ?_
        refine TL.cons rfl (V1.t (V1.loadN one_26 sz_26 rfl (RdN.whole (cells := key.map byteV) (by repeat (first | exact Find.here | assumption | apply Find.there | apply Find.far))) (by rw [List.length_map]; exact hkl)) ?_)
        refine TL.cons rfl (V1.t (V1.move' (by (conv => lhs; whnf) <;> rfl)) ?_)
        refine TL.cons rfl (V1.t (V1.move' (by (conv => lhs; whnf) <;> rfl)) ?_)
        refine TL.cons rfl (V1.t (V1.bytesToStr (l := i2) ty_22 ty_5 ty_9 rfl (hi2.src rfl) (by intro b h; cases h)) ?_)
        refine TL.cons rfl (T1.call0 has_34 rfl (fun w hs => refExpand_any key i2 400 w hkl (by omega)) (fun v hv => ?_))
        rw [if_neg (by omega)] at hv
        rw [hnn, Int.toNat_natCast] at hv
        subst hv
        refine TL.cons rfl (V1.t (V1.move' (by (conv => lhs; whnf) <;> rfl)) ?_)
        refine TL.cons rfl (V1.t (V1.extract rfl (by rfl)) ?_)
        refine TL.cons rfl (V1.t (V1.extract rfl (by rfl)) ?_)
        refine TL.cons rfl (V1.t (V1.assign' (by (conv => lhs; whnf) <;> rfl)) ?_)
        refine TL.cons rfl (V1.t (V1.assign' (by (conv => lhs; whnf) <;> rfl)) ?_)
        refine TL.nil ?_
        refine T.seq ?_
        refine T.region ?_
        refine TL.cons rfl (V1.t (V1.move' (by (conv => lhs; whnf) <;> rfl)) ?_)
        refine TL.cons rfl (V1.t (V1.slToStr ty_22 ty_5 ty_9 rfl hso (by repeat (first | exact Sub.here | exact Sub.last | apply Sub.there | apply Sub.far))) ?_)
        refine TL.cons rfl (V1.t (V1.move' (by (conv => lhs; whnf) <;> rfl)) ?_)
        refine TL.cons rfl (V1.t (V1.eqS (r := true) rfl rfl (by simp)) ?_)
        refine TL.cons rfl (V1.t (V1.move' (by (conv => lhs; whnf) <;> rfl)) ?_)
        refine TL.cons rfl (V1.t (V1.move' (by (conv => lhs; whnf) <;> rfl)) ?_)
        refine TL.cons rfl (V1.t (V1.move' (by (conv => lhs; whnf) <;> rfl)) ?_)
        refine TL.cons rfl (V1.t (V1.eqI (r := true) rfl rfl (by simp)) ?_)
        refine TL.cons rfl (V1.t (V1.pick rfl (by (conv => lhs; whnf) <;> rfl)) ?_)
        refine TL.cons rfl (V1.t (V1.assign' (by (conv => lhs; whnf) <;> rfl)) ?_)
        refine TL.nil ?_
        refine T.ret ?_
        exact ⟨_, [], _, .cons (.tmp (by (conv => lhs; whnf) <;> rfl)) .nil, Take.nil, rfl⟩
    ·
      refine TL.cons rfl (V1.t (V1.pick rfl (by (conv => lhs; whnf) <;> rfl)) ?_)
      refine TL.nil ?_
      refine T.cond_f rfl ?_
      refine T.skip ?_
      refine T.seq ?_
      refine T.live (l := [(1, _), (2, _), (3, _)]) (.cons (by (conv => lhs; whnf) <;> rfl) (.cons (by (conv => lhs; whnf) <;> rfl) (.cons (by (conv => lhs; whnf) <;> rfl) .nil))) (fun e_ => ?_)
      refine T.drawK (fun L_ => Find L_ ⟨b3, 0, key.map byteV, 32⟩) mixed (by repeat (first | exact Find.here | assumption | apply Find.there | apply Find.far)) ?_
      refine TK.take 0 rfl (by decide +kernel) (by decide +kernel) (by decide +kernel) rfl (fun _ _ _ h => h) (fun L_ k1_ => V1.loadN one_26 sz_26 rfl (RdN.whole (cells := key.map byteV) (by repeat (first | exact Find.here | assumption | apply Find.there | apply Find.far))) (by rw [List.length_map]; exact hkl)) ?_
      refine TK.take 1 rfl (by decide +kernel) (by decide +kernel) (by decide +kernel) rfl (fun _ _ _ h => h) (fun L_ k1_ => V1.move' (by (conv => lhs; whnf) <;> rfl)) ?_
      refine TK.take 2 rfl (by decide +kernel) (by decide +kernel) (by decide +kernel) rfl (fun _ _ _ h => h) (fun L_ k1_ => V1.move' (by (conv => lhs; whnf) <;> rfl)) ?_
      refine TK.take 3 rfl (by decide +kernel) (by decide +kernel) (by decide +kernel) rfl (fun _ _ _ h => h) (fun L_ k1_ => V1.move' (by (conv => lhs; whnf) <;> rfl)) ?_
      refine TK.take 4 rfl (by decide +kernel) (by decide +kernel) (by decide +kernel) rfl (fun _ _ _ h => h) (fun L_ k1_ => V1.lenSl ty_22 rfl) ?_
      refine TK.take 5 rfl (by decide +kernel) (by decide +kernel) (by decide +kernel) rfl (fun _ _ _ h => h) (fun L_ k1_ => V1.quo (c := ((i2.length / 2 : Nat) : Int)) rfl rfl (by decide) (by rw [show ((i2.length : Int).tdiv 2) = ((i2.length / 2 : Nat) : Int) from tquoN _ 2]; exact wrap_i64 _ (by omega) (by omega))) ?_
      refine TK.take 6 rfl (by decide +kernel) (by decide +kernel) (by decide +kernel) rfl (fun _ _ _ h => h) (fun L_ k1_ => show V1 _ _ _ _ (.slice fa (i2.take (i2.length / 2)).length fc) from by rw [← hfe]; exact V1.sliceR1 ty_22 sz_5 hi2 rfl (0) (i2.length / 2) rfl rfl (by omega) (by omega)) ?_
      refine TK.take 7 rfl (by decide +kernel) (by decide +kernel) (by decide +kernel) rfl (fun _ _ _ h => h) (fun L_ k1_ => V1.move' (by (conv => lhs; whnf) <;> rfl)) ?_
      refine TK.take 8 rfl (by decide +kernel) (by decide +kernel) (by decide +kernel) rfl (fun _ _ _ h => h) (fun L_ k1_ => V1.move' (by (conv => lhs; whnf) <;> rfl)) ?_
      refine TK.take 9 rfl (by decide +kernel) (by decide +kernel) (by decide +kernel) rfl (fun _ _ _ h => h) (fun L_ k1_ => V1.lenSl ty_22 rfl) ?_
      refine TK.take 10 rfl (by decide +kernel) (by decide +kernel) (by decide +kernel) rfl (fun _ _ _ h => h) (fun L_ k1_ => V1.quo (c := ((i2.length / 2 : Nat) : Int)) rfl rfl (by decide) (by rw [show ((i2.length : Int).tdiv 2) = ((i2.length / 2 : Nat) : Int) from tquoN _ 2]; exact wrap_i64 _ (by omega) (by omega))) ?_
      refine TK.take 11 rfl (by decide +kernel) (by decide +kernel) (by decide +kernel) rfl (fun _ _ _ h => h) (fun L_ k1_ => show V1 _ _ _ _ (.slice ba (i2.drop (i2.length / 2)).length bc) from by rw [← hbe]; exact V1.sliceR1 ty_22 sz_5 hi2 rfl (i2.length / 2) (i2.length) rfl rfl (by omega) (by omega)) ?_
      refine TK.one 12 (by decide +kernel) rfl rfl (T1.buildSl1 (os := [.tmp 31, .tmp 36]) (vs := [.slice fa (i2.take (i2.length / 2)).length fc, .slice ba (i2.drop (i2.length / 2)).length bc]) ty_44 sz_22 zr_22 (by decide) rfl (.cons (by (conv => lhs; whnf) <;> rfl) (.cons (by (conv => lhs; whnf) <;> rfl) .nil)) rfl (ones rfl) (fun b37 => ?_))
      refine ⟨(by repeat (first | exact Find.here | assumption | apply Find.there | apply Find.far)), ?_⟩
      refine TK.one 13 (by decide +kernel) rfl rfl (T1.callX (X := ([⟨b37, 0, [.slice fa (i2.take (i2.length / 2)).length fc, .slice ba (i2.drop (i2.length / 2)).length bc], 2⟩] : List Blk)) has_33 rfl (Expand_any _ _ key i2 nn [i2.take (i2.length / 2), i2.drop (i2.length / 2)] ([⟨b37, 0, [.slice fa (i2.take (i2.length / 2)).length fc, .slice ba (i2.drop (i2.length / 2)).length bc], 2⟩] : List Blk) hkl (by simp) (PartsR.ones (svs := [.slice fa (i2.take (i2.length / 2)).length fc, .slice ba (i2.drop (i2.length / 2)).length bc]) (size := 2) (by simp) rfl (two_parts (PartR.old hfi) (PartR.old hba))) (two_len (by omega) (by omega)) (show 2 < 9223372036854775807 by decide) (by omega)) (by repeat (first | exact Take.nil | apply Take.one (by repeat (first | exact Pick.here | apply Pick.there | apply Pick.far)) | apply Take.seg (by repeat (first | exact PickS.last | exact PickS.one | exact PickS.here | exact PickS.nil | apply PickS.there | apply PickS.far)) | exact Take.last (by repeat (first | exact PickS.last | exact PickS.one | exact PickS.here | exact PickS.nil | apply PickS.there | apply PickS.far)))) (fun v Y hY => ?_))
      rcases hY with ⟨hbad, rfl, rfl⟩ | ⟨n, so, Ls, hnn, hn8, rfl, hso, rfl⟩
      ·
        simp only [List.cons_append, List.nil_append]
        refine ⟨(by repeat (first | exact Find.here | assumption | apply Find.there | apply Find.far)), ?_⟩
        refine TK.take 14 rfl (by decide +kernel) (by decide +kernel) (by decide +kernel) rfl (fun _ _ _ h => h) (fun L_ k1_ => V1.move' (by (conv => lhs; whnf) <;> rfl)) ?_
        refine TK.take 15 rfl (by decide +kernel) (by decide +kernel) (by decide +kernel) rfl (fun _ _ _ h => h) (fun L_ k1_ => V1.extract rfl (by rfl)) ?_
        refine TK.take 16 rfl (by decide +kernel) (by decide +kernel) (by decide +kernel) rfl (fun _ _ _ h => h) (fun L_ k1_ => V1.extract rfl (by rfl)) ?_
        refine TK.take 17 rfl (by decide +kernel) (by decide +kernel) (by decide +kernel) rfl (fun _ _ _ h => h) (fun L_ k1_ => V1.assign' (by (conv => lhs; whnf) <;> rfl)) ?_
        refine TK.take 18 rfl (by decide +kernel) (by decide +kernel) (by decide +kernel) rfl (fun _ _ _ h => h) (fun L_ k1_ => V1.assign' (by (conv => lhs; whnf) <;> rfl)) ?_
        refine TD.done (by decide +kernel) ?_
        refine T.seq ?_
        refine T.live (l := [(1, _), (2, _), (3, _), (7, _), (8, _)]) (.cons (by (conv => lhs; whnf) <;> rfl) (.cons (by (conv => lhs; whnf) <;> rfl) (.cons (by (conv => lhs; whnf) <;> rfl) (.cons (by (conv => lhs; whnf) <;> rfl) (.cons (by (conv => lhs; whnf) <;> rfl) .nil))))) (fun e_ => ?_)
        refine T.region ?_
        refine TL.cons rfl (V1.t (V1.loadN one_26 sz_26 rfl (RdN.whole (cells := key.map byteV) (by repeat (first | exact Find.here | assumption | apply Find.there | apply Find.far))) (by rw [List.length_map]; exact hkl)) ?_)
        refine TL.cons rfl (V1.t (V1.move' (by (conv => lhs; whnf) <;> rfl)) ?_)
        refine TL.cons rfl (V1.t (V1.move' (by (conv => lhs; whnf) <;> rfl)) ?_)
        refine TL.cons rfl (V1.t (V1.bytesToStr (l := i2) ty_22 ty_5 ty_9 rfl (hi2.src rfl) (by intro b h; cases h)) ?_)
        refine TL.cons rfl (T1.call0 has_34 rfl (fun w hs => refExpand_any key i2 nn w hkl (by omega)) (fun v hv => ?_))
        rw [if_pos hbad] at hv
        subst hv
        refine TL.cons rfl (V1.t (V1.move' (by (conv => lhs; whnf) <;> rfl)) ?_)
        refine TL.cons rfl (V1.t (V1.extract rfl (by rfl)) ?_)
        refine TL.cons rfl (V1.t (V1.extract rfl (by rfl)) ?_)
        refine TL.cons rfl (V1.t (V1.assign' (by (conv => lhs; whnf) <;> rfl)) ?_)
        refine TL.cons rfl (V1.t (V1.assign' (by (conv => lhs; whnf) <;> rfl)) ?_)
        refine TL.nil ?_
        refine T.seq ?_
        refine T.region ?_
        refine TL.cons rfl (V1.t (V1.move' (by (conv => lhs; whnf) <;> rfl)) ?_)
        refine TL.cons rfl (V1.t (V1.bytesToStr (l := []) ty_22 ty_5 ty_9 rfl .nil (by intro b h; cases h)) ?_)
        refine TL.cons rfl (V1.t (V1.move' (by (conv => lhs; whnf) <;> rfl)) ?_)
        refine TL.cons rfl (V1.t (V1.eqS (r := true) rfl rfl (by simp)) ?_)
        refine TL.cons rfl (V1.t (V1.move' (by (conv => lhs; whnf) <;> rfl)) ?_)
        refine TL.cons rfl (V1.t (V1.move' (by (conv => lhs; whnf) <;> rfl)) ?_)
        refine TL.cons rfl (V1.t (V1.move' (by (conv => lhs; whnf) <;> rfl)) ?_)
        refine TL.cons rfl (V1.t (V1.eqI (r := true) rfl rfl (by simp)) ?_)
        refine TL.cons rfl (V1.t (V1.pick rfl (by (conv => lhs; whnf) <;> rfl)) ?_)
        refine TL.cons rfl (V1.t (V1.assign' (by (conv => lhs; whnf) <;> rfl)) ?_)
        refine TL.nil ?_
        refine T.ret ?_
        exact ⟨_, [], _, .cons (.tmp (by (conv => lhs; whnf) <;> rfl)) .nil, Take.nil, rfl⟩
      ·
        simp only [List.cons_append, List.nil_append, List.append_assoc]
        refine ⟨(by repeat (first | exact Find.here | assumption | apply Find.there | apply Find.far)), ?_⟩
        refine TK.take 14 rfl (by decide +kernel) (by decide +kernel) (by decide +kernel) rfl (fun _ _ _ h => h) (fun L_ k1_ => V1.move' (by (conv => lhs; whnf) <;> rfl)) ?_
        refine TK.take 15 rfl (by decide +kernel) (by decide +kernel) (by decide +kernel) rfl (fun _ _ _ h => h) (fun L_ k1_ => V1.extract rfl (by rfl)) ?_
        refine TK.take 16 rfl (by decide +kernel) (by decide +kernel) (by decide +kernel) rfl (fun _ _ _ h => h) (fun L_ k1_ => V1.extract rfl (by rfl)) ?_
        refine TK.take 17 rfl (by decide +kernel) (by decide +kernel) (by decide +kernel) rfl (fun _ _ _ h => h) (fun L_ k1_ => V1.assign' (by (conv => lhs; whnf) <;> rfl)) ?_
        refine TK.take 18 rfl (by decide +kernel) (by decide +kernel) (by decide +kernel) rfl (fun _ _ _ h => h) (fun L_ k1_ => V1.assign' (by (conv => lhs; whnf) <;> rfl)) ?_
        refine TD.done (by decide +kernel) ?_
        refine T.seq ?_
        refine T.live (l := [(1, _), (2, _), (3, _), (7, _), (8, _)]) (.cons (by (conv => lhs; whnf) <;> rfl) (.cons (by (conv => lhs; whnf) <;> rfl) (.cons (by (conv => lhs; whnf) <;> rfl) (.cons (by (conv => lhs; whnf) <;> rfl) (.cons (by (conv => lhs; whnf) <;> rfl) .nil))))) (fun e_ => ?_)
        refine T.region ?_
        refine TL.cons rfl (V1.t (V1.loadN one_26 sz_26 rfl (RdN.whole (cells := key.map byteV) (by repeat (first | exact Find.here | assumption | apply Find.there | apply Find.far))) (by rw [List.length_map]; exact hkl)) ?_)
        refine TL.cons rfl (V1.t (V1.move' (by (conv => lhs; whnf) <;> rfl)) ?_)
        refine TL.cons rfl (V1.t (V1.move' (by (conv => lhs; whnf) <;> rfl)) ?_)
        refine TL.cons rfl (V1.t (V1.bytesToStr (l := i2) ty_22 ty_5 ty_9 rfl (hi2.src rfl) (by intro b h; cases h)) ?_)
        refine TL.cons rfl (T1.call0 has_34 rfl (fun w hs => refExpand_any key i2 nn w hkl (by omega)) (fun v hv => ?_))
        rw [if_neg (by omega)] at hv
        rw [hnn, Int.toNat_natCast] at hv
        subst hv
        refine TL.cons rfl (V1.t (V1.move' (by (conv => lhs; whnf) <;> rfl)) ?_)
        refine TL.cons rfl (V1.t (V1.extract rfl (by rfl)) ?_)
        refine TL.cons rfl (V1.t (V1.extract rfl (by rfl)) ?_)
        refine TL.cons rfl (V1.t (V1.assign' (by (conv => lhs; whnf) <;> rfl)) ?_)
        refine TL.cons rfl (V1.t (V1.assign' (by (conv => lhs; whnf) <;> rfl)) ?_)
        refine TL.nil ?_
        refine T.seq ?_
        refine T.region ?_
        refine TL.cons rfl (V1.t (V1.move' (by (conv => lhs; whnf) <;> rfl)) ?_)
        refine TL.cons rfl (V1.t (V1.slToStr ty_22 ty_5 ty_9 rfl hso (by repeat (first | exact Sub.here | exact Sub.last | apply Sub.there | apply Sub.far))) ?_)
        refine TL.cons rfl (V1.t (V1.move' (by (conv => lhs; whnf) <;> rfl)) ?_)
        refine TL.cons rfl (V1.t (V1.eqS (r := true) rfl rfl (by simp)) ?_)
        refine TL.cons rfl (V1.t (V1.move' (by (conv => lhs; whnf) <;> rfl)) ?_)
        refine TL.cons rfl (V1.t (V1.move' (by (conv => lhs; whnf) <;> rfl)) ?_)
        refine TL.cons rfl (V1.t (V1.move' (by (conv => lhs; whnf) <;> rfl)) ?_)
        refine TL.cons rfl (V1.t (V1.eqI (r := true) rfl rfl (by simp)) ?_)
        refine TL.cons rfl (V1.t (V1.pick rfl (by (conv => lhs; whnf) <;> rfl)) ?_)
        refine TL.cons rfl (V1.t (V1.assign' (by (conv => lhs; whnf) <;> rfl)) ?_)
        refine TL.nil ?_
        refine T.ret ?_
        exact ⟨_, [], _, .cons (.tmp (by (conv => lhs; whnf) <;> rfl)) .nil, Take.nil, rfl⟩
  ·
    refine TL.cons rfl (V1.t (V1.move' (by (conv => lhs; whnf) <;> rfl)) ?_)
    refine TL.no rfl ?_
    refine TL.no rfl ?_
    refine TL.cons rfl (V1.t (V1.pick rfl (by (conv => lhs; whnf) <;> rfl)) ?_)
    refine TL.nil ?_
    refine T.cond_f rfl ?_
    refine T.skip ?_
    refine T.seq ?_
    refine T.live (l := [(1, _), (2, _), (3, _)]) (.cons (by (conv => lhs; whnf) <;> rfl) (.cons (by (conv => lhs; whnf) <;> rfl) (.cons (by (conv => lhs; whnf) <;> rfl) .nil))) (fun e_ => ?_)
    refine T.drawK (fun L_ => Find L_ ⟨b3, 0, key.map byteV, 32⟩) mixed (by repeat (first | exact Find.here | assumption | apply Find.there | apply Find.far)) ?_
    refine TK.take 0 rfl (by decide +kernel) (by decide +kernel) (by decide +kernel) rfl (fun _ _ _ h => h) (fun L_ k1_ => V1.loadN one_26 sz_26 rfl (RdN.whole (cells := key.map byteV) (by repeat (first | exact Find.here | assumption | apply Find.there | apply Find.far))) (by rw [List.length_map]; exact hkl)) ?_
    refine TK.take 1 rfl (by decide +kernel) (by decide +kernel) (by decide +kernel) rfl (fun _ _ _ h => h) (fun L_ k1_ => V1.move' (by (conv => lhs; whnf) <;> rfl)) ?_
    refine TK.take 2 rfl (by decide +kernel) (by decide +kernel) (by decide +kernel) rfl (fun _ _ _ h => h) (fun L_ k1_ => V1.move' (by (conv => lhs; whnf) <;> rfl)) ?_
    refine TK.take 3 rfl (by decide +kernel) (by decide +kernel) (by decide +kernel) rfl (fun _ _ _ h => h) (fun L_ k1_ => V1.move' (by (conv => lhs; whnf) <;> rfl)) ?_
    refine TK.take 4 rfl (by decide +kernel) (by decide +kernel) (by decide +kernel) rfl (fun _ _ _ h => h) (fun L_ k1_ => V1.lenSl ty_22 rfl) ?_
    refine TK.take 5 rfl (by decide +kernel) (by decide +kernel) (by decide +kernel) rfl (fun _ _ _ h => h) (fun L_ k1_ => V1.quo (c := ((i2.length / 2 : Nat) : Int)) rfl rfl (by decide) (by rw [show ((i2.length : Int).tdiv 2) = ((i2.length / 2 : Nat) : Int) from tquoN _ 2]; exact wrap_i64 _ (by omega) (by omega))) ?_
    refine TK.take 6 rfl (by decide +kernel) (by decide +kernel) (by decide +kernel) rfl (fun _ _ _ h => h) (fun L_ k1_ => show V1 _ _ _ _ (.slice fa (i2.take (i2.length / 2)).length fc) from by rw [← hfe]; exact V1.sliceR1 ty_22 sz_5 hi2 rfl (0) (i2.length / 2) rfl rfl (by omega) (by omega)) ?_
    refine TK.take 7 rfl (by decide +kernel) (by decide +kernel) (by decide +kernel) rfl (fun _ _ _ h => h) (fun L_ k1_ => V1.move' (by (conv => lhs; whnf) <;> rfl)) ?_
    refine TK.take 8 rfl (by decide +kernel) (by decide +kernel) (by decide +kernel) rfl (fun _ _ _ h => h) (fun L_ k1_ => V1.move' (by (conv => lhs; whnf) <;> rfl)) ?_
    refine TK.take 9 rfl (by decide +kernel) (by decide +kernel) (by decide +kernel) rfl (fun _ _ _ h => h) (fun L_ k1_ => V1.lenSl ty_22 rfl) ?_
    refine TK.take 10 rfl (by decide +kernel) (by decide +kernel) (by decide +kernel) rfl (fun _ _ _ h => h) (fun L_ k1_ => V1.quo (c := ((i2.length / 2 : Nat) : Int)) rfl rfl (by decide) (by rw [show ((i2.length : Int).tdiv 2) = ((i2.length / 2 : Nat) : Int) from tquoN _ 2]; exact wrap_i64 _ (by omega) (by omega))) ?_
    refine TK.take 11 rfl (by decide +kernel) (by decide +kernel) (by decide +kernel) rfl (fun _ _ _ h => h) (fun L_ k1_ => show V1 _ _ _ _ (.slice ba (i2.drop (i2.length / 2)).length bc) from by rw [← hbe]; exact V1.sliceR1 ty_22 sz_5 hi2 rfl (i2.length / 2) (i2.length) rfl rfl (by omega) (by omega)) ?_
    refine TK.one 12 (by decide +kernel) rfl rfl (T1.buildSl1 (os := [.tmp 31, .tmp 36]) (vs := [.slice fa (i2.take (i2.length / 2)).length fc, .slice ba (i2.drop (i2.length / 2)).length bc]) ty_44 sz_22 zr_22 (by decide) rfl (.cons (by (conv => lhs; whnf) <;> rfl) (.cons (by (conv => lhs; whnf) <;> rfl) .nil)) rfl (ones rfl) (fun b37 => ?_))
    refine ⟨(by repeat (first | exact Find.here | assumption | apply Find.there | apply Find.far)), ?_⟩
    refine TK.one 13 (by decide +kernel) rfl rfl (T1.callX (X := ([⟨b37, 0, [.slice fa (i2.take (i2.length / 2)).length fc, .slice ba (i2.drop (i2.length / 2)).length bc], 2⟩] : List Blk)) has_33 rfl (Expand_any _ _ key i2 nn [i2.take (i2.length / 2), i2.drop (i2.length / 2)] ([⟨b37, 0, [.slice fa (i2.take (i2.length / 2)).length fc, .slice ba (i2.drop (i2.length / 2)).length bc], 2⟩] : List Blk) hkl (by simp) (PartsR.ones (svs := [.slice fa (i2.take (i2.length / 2)).length fc, .slice ba (i2.drop (i2.length / 2)).length bc]) (size := 2) (by simp) rfl (two_parts (PartR.old hfi) (PartR.old hba))) (two_len (by omega) (by omega)) (show 2 < 9223372036854775807 by decide) (by omega)) (by repeat (first | exact Take.nil | apply Take.one (by repeat (first | exact Pick.here | apply Pick.there | apply Pick.far)) | apply Take.seg (by repeat (first | exact PickS.last | exact PickS.one | exact PickS.here | exact PickS.nil | apply PickS.there | apply PickS.far)) | exact Take.last (by repeat (first | exact PickS.last | exact PickS.one | exact PickS.here | exact PickS.nil | apply PickS.there | apply PickS.far)))) (fun v Y hY => ?_))
    rcases hY with ⟨hbad, rfl, rfl⟩ | ⟨n, so, Ls, hnn, hn8, rfl, hso, rfl⟩
    ·
      simp only [List.cons_append, List.nil_append]
      refine ⟨(by repeat (first | exact Find.here | assumption | apply Find.there | apply Find.far)), ?_⟩
      refine TK.take 14 rfl (by decide +kernel) (by decide +kernel) (by decide +kernel) rfl (fun _ _ _ h => h) (fun L_ k1_ => V1.move' (by (conv => lhs; whnf) <;> rfl)) ?_
      refine TK.take 15 rfl (by decide +kernel) (by decide +kernel) (by decide +kernel) rfl (fun _ _ _ h => h) (fun L_ k1_ => V1.extract rfl (by rfl)) ?_
      refine TK.take 16 rfl (by decide +kernel) (by decide +kernel) (by decide +kernel) rfl (fun _ _ _ h => h) (fun L_ k1_ => V1.extract rfl (by rfl)) ?_
      refine TK.take 17 rfl (by decide +kernel) (by decide +kernel) (by decide +kernel) rfl (fun _ _ _ h => h) (fun L_ k1_ => V1.assign' (by (conv => lhs; whnf) <;> rfl)) ?_
      refine TK.take 18 rfl (by decide +kernel) (by decide +kernel) (by decide +kernel) rfl (fun _ _ _ h => h) (fun L_ k1_ => V1.assign' (by (conv => lhs; whnf) <;> rfl)) ?_
      refine TD.done (by decide +kernel) ?_
      refine T.seq ?_
      refine T.live (l := [(1, _), (2, _), (3, _), (7, _), (8, _)]) (.cons (by (conv => lhs; whnf) <;> rfl) (.cons (by (conv => lhs; whnf) <;> rfl) (.cons (by (conv => lhs; whnf) <;> rfl) (.cons (by (conv => lhs; whnf) <;> rfl) (.cons (by (conv => lhs; whnf) <;> rfl) .nil))))) (fun e_ => ?_)
      refine T.region ?_
      refine TL.cons rfl (V1.t (V1.loadN one_26 sz_26 rfl (RdN.whole (cells := key.map byteV) (by repeat (first | exact Find.here | assumption | apply Find.there | apply Find.far))) (by rw [List.length_map]; exact hkl)) ?_)
      refine TL.cons rfl (V1.t (V1.move' (by (conv => lhs; whnf) <;> rfl)) ?_)
      refine TL.cons rfl (V1.t (V1.move' (by (conv => lhs; whnf) <;> rfl)) ?_)
      refine TL.cons rfl (V1.t (V1.bytesToStr (l := i2) ty_22 ty_5 ty_9 rfl (hi2.src rfl) (by intro b h; cases h)) ?_)
      refine TL.cons rfl (T1.call0 has_34 rfl (fun w hs => refExpand_any key i2 nn w hkl (by omega)) (fun v hv => ?_))
      rw [if_pos hbad] at hv
      subst hv
      refine TL.cons rfl (V1.t (V1.move' (by (conv => lhs; whnf) <;> rfl)) ?_)
      refine TL.cons rfl (V1.t (V1.extract rfl (by rfl)) ?_)
      refine TL.cons rfl (V1.t (V1.extract rfl (by rfl)) ?_)
      refine TL.cons rfl (V1.t (V1.assign' (by (conv => lhs; whnf) <;> rfl)) ?_)
      refine TL.cons rfl (V1.t (V1.assign' (by (conv => lhs; whnf) <;> rfl)) ?_)
      refine TL.nil ?_
      refine T.seq ?_
      refine T.region ?_
      refine TL.cons rfl (V1.t (V1.move' (by (conv => lhs; whnf) <;> rfl)) ?_)
      refine TL.cons rfl (V1.t (V1.bytesToStr (l := []) ty_22 ty_5 ty_9 rfl .nil (by intro b h; cases h)) ?_)
      refine TL.cons rfl (V1.t (V1.move' (by (conv => lhs; whnf) <;> rfl)) ?_)
      refine TL.cons rfl (V1.t (V1.eqS (r := true) rfl rfl (by simp)) ?_)
      refine TL.cons rfl (V1.t (V1.move' (by (conv => lhs; whnf) <;> rfl)) ?_)
      refine TL.cons rfl (V1.t (V1.move' (by (conv => lhs; whnf) <;> rfl)) ?_)
      refine TL.cons rfl (V1.t (V1.move' (by (conv => lhs; whnf) <;> rfl)) ?_)
      refine TL.cons rfl (V1.t (V1.eqI (r := true) rfl rfl (by simp)) ?_)
      refine TL.cons rfl (V1.t (V1.pick rfl (by (conv => lhs; whnf) <;> rfl)) ?_)
      refine TL.cons rfl (V1.t (V1.assign' (by (conv => lhs; whnf) <;> rfl)) ?_)
      refine TL.nil ?_
      refine T.ret ?_
      exact ⟨_, [], _, .cons (.tmp (by (conv => lhs; whnf) <;> rfl)) .nil, Take.nil, rfl⟩
    ·
      simp only [List.cons_append, List.nil_append, List.append_assoc]
      refine ⟨(by repeat (first | exact Find.here | assumption | apply Find.there | apply Find.far)), ?_⟩
      refine TK.take 14 rfl (by decide +kernel) (by decide +kernel) (by decide +kernel) rfl (fun _ _ _ h => h) (fun L_ k1_ => V1.move' (by (conv => lhs; whnf) <;> rfl)) ?_
      refine TK.take 15 rfl (by decide +kernel) (by decide +kernel) (by decide +kernel) rfl (fun _ _ _ h => h) (fun L_ k1_ => V1.extract rfl (by rfl)) ?_
      refine TK.take 16 rfl (by decide +kernel) (by decide +kernel) (by decide +kernel) rfl (fun _ _ _ h => h) (fun L_ k1_ => V1.extract rfl (by rfl)) ?_
      refine TK.take 17 rfl (by decide +kernel) (by decide +kernel) (by decide +kernel) rfl (fun _ _ _ h => h) (fun L_ k1_ => V1.assign' (by (conv => lhs; whnf) <;> rfl)) ?_
      refine TK.take 18 rfl (by decide +kernel) (by decide +kernel) (by decide +kernel) rfl (fun _ _ _ h => h) (fun L_ k1_ => V1.assign' (by (conv => lhs; whnf) <;> rfl)) ?_
      refine TD.done (by decide +kernel) ?_
      refine T.seq ?_
      refine T.live (l := [(1, _), (2, _), (3, _), (7, _), (8, _)]) (.cons (by (conv => lhs; whnf) <;> rfl) (.cons (by (conv => lhs; whnf) <;> rfl) (.cons (by (conv => lhs; whnf) <;> rfl) (.cons (by (conv => lhs; whnf) <;> rfl) (.cons (by (conv => lhs; whnf) <;> rfl) .nil))))) (fun e_ => ?_)
      refine T.region ?_
      refine TL.cons rfl (V1.t (V1.loadN one_26 sz_26 rfl (RdN.whole (cells := key.map byteV) (by repeat (first | exact Find.here | assumption | apply Find.there | apply Find.far))) (by rw [List.length_map]; exact hkl)) ?_)
      refine TL.cons rfl (V1.t (V1.move' (by (conv => lhs; whnf) <;> rfl)) ?_)
      refine TL.cons rfl (V1.t (V1.move' (by (conv => lhs; whnf) <;> rfl)) ?_)
      refine TL.cons rfl (V1.t (V1.bytesToStr (l := i2) ty_22 ty_5 ty_9 rfl (hi2.src rfl) (by intro b h; cases h)) ?_)
      refine TL.cons rfl (T1.call0 has_34 rfl (fun w hs => refExpand_any key i2 nn w hkl (by omega)) (fun v hv => ?_))
      rw [if_neg (by omega)] at hv
      rw [hnn, Int.toNat_natCast] at hv
      subst hv
      refine TL.cons rfl (V1.t (V1.move' (by (conv => lhs; whnf) <;> rfl)) ?_)
      refine TL.cons rfl (V1.t (V1.extract rfl (by rfl)) ?_)
      refine TL.cons rfl (V1.t (V1.extract rfl (by rfl)) ?_)
      refine TL.cons rfl (V1.t (V1.assign' (by (conv => lhs; whnf) <;> rfl)) ?_)
      refine TL.cons rfl (V1.t (V1.assign' (by (conv => lhs; whnf) <;> rfl)) ?_)
      refine TL.nil ?_
      refine T.seq ?_
      refine T.region ?_
      refine TL.cons rfl (V1.t (V1.move' (by (conv => lhs; whnf) <;> rfl)) ?_)
      refine TL.cons rfl (V1.t (V1.slToStr ty_22 ty_5 ty_9 rfl hso (by repeat (first | exact Sub.here | exact Sub.last | apply Sub.there | apply Sub.far))) ?_)
      refine TL.cons rfl (V1.t (V1.move' (by (conv => lhs; whnf) <;> rfl)) ?_)
      refine TL.cons rfl (V1.t (V1.eqS (r := true) rfl rfl (by simp)) ?_)
      refine TL.cons rfl (V1.t (V1.move' (by (conv => lhs; whnf) <;> rfl)) ?_)
      refine TL.cons rfl (V1.t (V1.move' (by (conv => lhs; whnf) <;> rfl)) ?_)
      refine TL.cons rfl (V1.t (V1.move' (by (conv => lhs; whnf) <;> rfl)) ?_)
      refine TL.cons rfl (V1.t (V1.eqI (r := true) rfl rfl (by simp)) ?_)
      refine TL.cons rfl (V1.t (V1.pick rfl (by (conv => lhs; whnf) <;> rfl)) ?_)
      refine TL.cons rfl (V1.t (V1.assign' (by (conv => lhs; whnf) <;> rfl)) ?_)
      refine TL.nil ?_
      refine T.ret ?_
      exact ⟨_, [], _, .cons (.tmp (by (conv => lhs; whnf) <;> rfl)) .nil, Take.nil, rfl⟩

end Go.Proofs.Ytelcmllfojfbfaa.S
