/- So many keys of what is hardly one. -/
import Derived.Test.YtelcmllfojfbfaaM8
namespace Go.Proofs.Ytelcmllfojfbfaa.S
open Go.RowKit

open Sh
/-- The bytes of so many keys. -/
def keysB (salt secret info : List UInt8) (c : Nat) : List UInt8 := expB (hmac salt secret) info (32 * c)
theorem keysB_len (salt secret info : List UInt8) (c : Nat) : (keysB salt secret info c).length = 32 * c := expB_len _ _ _
theorem take_32 {p : List UInt8} {i : Nat} : p.take (32 * i) ++ (p.drop (32 * i)).take 32 = p.take (32 * (i + 1)) := by
  rw [Nat.mul_succ, List.take_add]
theorem RdN.frontB {C : Ctx} {L : List Blk} {b off size k : Nat} {p : List UInt8} (hf : Find L ⟨b, off, p.map byteV, size⟩) : RdN C L ⟨b, off, none⟩ ((p.take k).map byteV) := by
  have := RdN.sub (C := C) (o := 0) (k := k) hf
  rwa [List.drop_zero, ← List.map_take] at this

set_option maxRecDepth 100000 in
set_option maxHeartbeats 4000000 in
theorem Keys_any (w0 : World) (av bv : Value) (salt secret info : List UInt8) (cc : Int) (Ps : List Blk) (hsa : PartR w0 Ps av salt) (hsl : salt.length ≤ 200000000000000) (hse : PartR w0 Ps bv secret) (hkl : secret.length ≤ 200000000000000) (hil : info.length ≤ 1000000) : FnX P 40 [av, bv, .string (bstr info), .int .i64 cc] w0 [] Ps (fun r Y => ((cc < 0 ∨ 255 < cc) ∧ r = .tuple #[.slice none 0 0, .int .i64 1] ∧ Y = Ps) ∨ ∃ (c : Nat) (s : Value) (Ls : List Blk), cc = (c : Int) ∧ c ≤ 255 ∧ r = .tuple #[s, .int .i64 0] ∧ Sl s ((keysB salt secret info c).map byteV) 32 Ls ∧ Y = Ls ++ Ps) := by
  obtain ⟨sa, sc, rfl⟩ := hsa.form
  obtain ⟨ka, kc, rfl⟩ := hse.form
  refine FnX.of 48 [.tmp 8, .tmp 9] Go.Proofs.Try.func40 rfl rfl rfl rfl (fun G => ?_)
  refine T.seq ?_
  refine T.region ?_
  refine TL.cons rfl (V1.t (V1.assign' (by (conv => lhs; whnf) <;> rfl)) ?_)
  refine TL.cons rfl (V1.t (V1.assign' (by (conv => lhs; whnf) <;> rfl)) ?_)
  refine TL.nil ?_
  refine T.seq ?_
  refine T.seq ?_
  refine T.region ?_
  refine TL.cons rfl (V1.t (V1.move' (by (conv => lhs; whnf) <;> rfl)) ?_)
  refine TL.cons rfl (T1.ltI_split rfl rfl (fun h1_1 => ?_) (fun h1_1 => ?_))
  ·
    refine TL.cons rfl (V1.t (V1.move' (by (conv => lhs; whnf) <;> rfl)) ?_)
    refine TL.no rfl ?_
    refine TL.no rfl ?_
    refine TL.cons rfl (V1.t (V1.pick rfl (by (conv => lhs; whnf) <;> rfl)) ?_)
    refine TL.nil ?_
    refine T.cond_t rfl ?_
    refine T.seq ?_
    refine T.region ?_
    refine TL.cons rfl (V1.t (V1.assign' (by (conv => lhs; whnf) <;> rfl)) ?_)
    refine TL.cons rfl (V1.t (V1.assign' (by (conv => lhs; whnf) <;> rfl)) ?_)
    refine TL.nil ?_
    refine T.ret ?_
    exact ⟨_, Ps ++ G, _, .cons (.tmp (by (conv => lhs; whnf) <;> rfl)) (.cons (.tmp (by (conv => lhs; whnf) <;> rfl)) .nil), (by repeat (first | exact Take.nil | apply Take.one (by repeat (first | exact Pick.here | apply Pick.there | apply Pick.far)) | apply Take.seg (by repeat (first | exact PickS.last | exact PickS.one | exact PickS.here | exact PickS.nil | apply PickS.there | apply PickS.far)) | exact Take.last (by repeat (first | exact PickS.last | exact PickS.one | exact PickS.here | exact PickS.nil | apply PickS.there | apply PickS.far)))), Ps, rfl, .inl ⟨by omega, rfl, rfl⟩⟩
  ·
    refine TL.cons rfl (V1.t (V1.move' (by (conv => lhs; whnf) <;> rfl)) ?_)
    refine TL.cons rfl (V1.t (V1.move' (by (conv => lhs; whnf) <;> rfl)) ?_)
    refine TL.cons rfl (T1.gtI_split rfl rfl (fun h1_4 => ?_) (fun h1_4 => ?_))
    ·
      refine TL.cons rfl (V1.t (V1.pick rfl (by (conv => lhs; whnf) <;> rfl)) ?_)
      refine TL.nil ?_
      refine T.cond_t rfl ?_
      refine T.seq ?_
      refine T.region ?_
      refine TL.cons rfl (V1.t (V1.assign' (by (conv => lhs; whnf) <;> rfl)) ?_)
      refine TL.cons rfl (V1.t (V1.assign' (by (conv => lhs; whnf) <;> rfl)) ?_)
      refine TL.nil ?_
      refine T.ret ?_
      exact ⟨_, Ps ++ G, _, .cons (.tmp (by (conv => lhs; whnf) <;> rfl)) (.cons (.tmp (by (conv => lhs; whnf) <;> rfl)) .nil), (by repeat (first | exact Take.nil | apply Take.one (by repeat (first | exact Pick.here | apply Pick.there | apply Pick.far)) | apply Take.seg (by repeat (first | exact PickS.last | exact PickS.one | exact PickS.here | exact PickS.nil | apply PickS.there | apply PickS.far)) | exact Take.last (by repeat (first | exact PickS.last | exact PickS.one | exact PickS.here | exact PickS.nil | apply PickS.there | apply PickS.far)))), Ps, rfl, .inl ⟨by omega, rfl, rfl⟩⟩
    ·
      obtain ⟨c, rfl⟩ : ∃ c : Nat, cc = (c : Int) := ⟨cc.toNat, by omega⟩
      have hc8 : c ≤ 255 := by omega
      refine TL.cons rfl (V1.t (V1.pick rfl (by (conv => lhs; whnf) <;> rfl)) ?_)
      refine TL.nil ?_
      refine T.cond_f rfl ?_
      refine T.skip ?_
      refine T.seq ?_
      refine T.region ?_
      refine TL.cons rfl (V1.t (V1.move' (by (conv => lhs; whnf) <;> rfl)) ?_)
      refine TL.cons rfl (V1.t (V1.move' (by (conv => lhs; whnf) <;> rfl)) ?_)
      refine TL.cons rfl (T1.buildSl1 (os := [.tmp 21]) (vs := [.slice ka secret.length kc]) ty_44 sz_22 zr_22 (by decide) rfl (.cons (by (conv => lhs; whnf) <;> rfl) .nil) rfl (ones rfl) (fun b22 => ?_))
      refine TL.cons rfl (T1.callX (X := (⟨b22, 0, [.slice ka secret.length kc], 1⟩ :: Ps : List Blk)) has_30 rfl (Extract_any _ _ _ salt [secret] (⟨b22, 0, [.slice ka secret.length kc], 1⟩ :: Ps : List Blk) (hsa.more (fun _ h => List.mem_cons_of_mem _ h)) hsl (PartsR.ones (svs := [.slice ka secret.length kc]) (size := 1) (by simp) rfl (one_part (hse.more (fun _ h => List.mem_cons_of_mem _ h)))) (one_len hkl) (show 1 < 9223372036854775807 by decide) (by simp; omega)) (by repeat (first | exact Take.nil | apply Take.one (by repeat (first | exact Pick.here | apply Pick.there | apply Pick.far)) | apply Take.seg (by repeat (first | exact PickS.last | exact PickS.one | exact PickS.here | exact PickS.nil | apply PickS.there | apply PickS.far)) | exact Take.last (by repeat (first | exact PickS.last | exact PickS.one | exact PickS.here | exact PickS.nil | apply PickS.there | apply PickS.far)))) (fun v Y hY => ?_))
      obtain ⟨rfl, rfl⟩ := hY
      simp only [List.cons_append]
      rw [show ([secret] : List (List UInt8)).flatten = secret from by simp]
      refine TL.cons rfl (V1.t (V1.move' (by (conv => lhs; whnf) <;> rfl)) ?_)
      refine TL.cons rfl (V1.t (V1.mul (c := ((32 * c : Nat) : Int)) rfl rfl (by rw [wrap_i64 _ (by omega) (by omega)]; omega)) ?_)
      refine TL.cons rfl (V1.t (V1.move' (by (conv => lhs; whnf) <;> rfl)) ?_)
      refine TL.cons rfl (T1.strToBytes ty_9 ty_22 ty_5 rfl (fun b27 c27 hc27 => ?_))
      replace hc27 : info.length ≤ c27 := hc27
      refine TL.cons rfl (T1.buildSl1 (os := [.tmp 27]) (vs := [.slice (some ⟨b27, 0, none⟩) info.length c27]) ty_44 sz_22 zr_22 (by decide) rfl (.cons (by (conv => lhs; whnf) <;> rfl) .nil) rfl (ones rfl) (fun b28 => ?_))
      refine TL.cons rfl (T1.callX (X := ([⟨b28, 0, [.slice (some ⟨b27, 0, none⟩) info.length c27], 1⟩, ⟨b27, 0, info.map byteV, c27⟩] : List Blk)) has_33 rfl (Expand_any _ _ (hmac salt secret) info ((32 * c : Nat) : Int) [info] ([⟨b28, 0, [.slice (some ⟨b27, 0, none⟩) info.length c27], 1⟩, ⟨b27, 0, info.map byteV, c27⟩] : List Blk) (hmac_len _ _) (by simp) (PartsR.ones (svs := [.slice (some ⟨b27, 0, none⟩) info.length c27]) (size := 1) (by simp) rfl (one_part (PartR.own (Ls := [⟨b27, 0, info.map byteV, c27⟩]) (.inr ⟨b27, 0, info.length, c27, c27, rfl, by rw [List.length_map, Nat.mul_one], hc27, by omega, rfl⟩) (fun _ h => List.mem_cons_of_mem _ h)))) (one_len (by omega)) (show 1 < 9223372036854775807 by decide) (by omega)) (by repeat (first | exact Take.nil | apply Take.one (by repeat (first | exact Pick.here | apply Pick.there | apply Pick.far)) | apply Take.seg (by repeat (first | exact PickS.last | exact PickS.one | exact PickS.here | exact PickS.nil | apply PickS.there | apply PickS.far)) | exact Take.last (by repeat (first | exact PickS.last | exact PickS.one | exact PickS.here | exact PickS.nil | apply PickS.there | apply PickS.far)))) (fun v Y hY => ?_))
      rcases hY with ⟨hbad, _, _⟩ | ⟨n, so, Ls, hnn, hn8, rfl, hso, rfl⟩
      · exfalso; omega
      obtain rfl : 32 * c = n := by omega
      change Sl so ((keysB salt secret info c).map byteV) 1 Ls at hso
      simp only [List.cons_append, List.nil_append, List.append_assoc]
      refine TL.cons rfl (V1.t (V1.move' (by (conv => lhs; whnf) <;> rfl)) ?_)
      refine TL.cons rfl (V1.t (V1.extract rfl (by rfl)) ?_)
      refine TL.cons rfl (V1.t (V1.extract rfl (by rfl)) ?_)
      refine TL.cons rfl (V1.t (V1.assign' (by (conv => lhs; whnf) <;> rfl)) ?_)
      refine TL.cons rfl (V1.t (V1.assign' (by (conv => lhs; whnf) <;> rfl)) ?_)
      refine TL.nil ?_
      refine T.seq ?_
      refine T.seq ?_
      refine T.live (l := [(10, _), (11, _)]) (.cons (by (conv => lhs; whnf) <;> rfl) (.cons (by (conv => lhs; whnf) <;> rfl) .nil)) (fun e_ => ?_)
      refine T.region ?_
      refine TL.cons rfl (V1.t (V1.move' (by (conv => lhs; whnf) <;> rfl)) ?_)
      refine TL.cons rfl (V1.t (V1.neI rfl rfl (decide_eq_false (by omega))) ?_)
      refine TL.nil ?_
      refine T.cond_f rfl ?_
      refine T.skip ?_
      refine T.seq ?_
      refine T.region ?_
      refine TL.cons rfl (V1.t (V1.assign' (by (conv => lhs; whnf) <;> rfl)) ?_)
      refine TL.nil ?_
      refine T.seq ?_
      refine T.block ?_
      refine T.loopL (σ := Nat × Value × Value × List Blk × List Blk) (l0 := []) (fun x => [(12, x.2.1), (10, x.2.2.1)]) (fun x L => L = x.2.2.2.1 ++ (x.2.2.2.2 ++ (Ps ++ G)) ∧ Sl x.2.1 (((keysB salt secret info c).take (32 * x.1)).map byteV) 32 x.2.2.2.1 ∧ Sl x.2.2.1 (((keysB salt secret info c).drop (32 * x.1)).map byteV) 1 x.2.2.2.2 ∧ x.1 ≤ c) (fun x => c - x.1) (0, .slice none 0 0, so, [], Ls) (.cons rfl (.cons rfl .nil)) .nil (by repeat (first | exact Take.nil | apply Take.one (by repeat (first | exact Pick.here | apply Pick.there | apply Pick.far)) | apply Take.seg (by repeat (first | exact PickS.last | exact PickS.one | exact PickS.here | exact PickS.nil | apply PickS.there | apply PickS.far)) | exact Take.last (by repeat (first | exact PickS.last | exact PickS.one | exact PickS.here | exact PickS.nil | apply PickS.there | apply PickS.far)))) (⟨rfl, Sl.nil, hso, Nat.zero_le _⟩) ?_
      rintro ⟨i, so2, sb, Lo, Lb⟩ e_ L ⟨rfl, hso2, hsb, hi⟩
      simp only at hso2 hsb hi
      obtain ⟨ba, bc, rfl⟩ := hsb.form1
      refine T.seq ?_
      refine T.seq ?_
      refine T.region ?_
      refine TL.cons rfl (V1.t (V1.move' (by (conv => lhs; whnf) <;> rfl)) ?_)
      refine TL.cons rfl (V1.t (V1.lenSl ty_22 rfl) ?_)
      refine TL.cons rfl (T1.gtI_split rfl rfl (fun h7_2 => ?_) (fun h7_2 => ?_))
      ·
        rw [List.length_drop, keysB_len] at h7_2
        obtain ⟨bb, ob, zb, rfl, _, hcb, hzb, rfl⟩ := hsb.own1 (by rw [List.length_drop, keysB_len]; omega)
        have hch : (((keysB salt secret info c).drop (32 * i)).take 32).length = 32 := by rw [List.length_take, List.length_drop, keysB_len]; omega
        refine TL.nil ?_
        refine T.cond_t rfl ?_
        refine T.skip ?_
        refine T.seq ?_
        refine T.block ?_
        refine T.region ?_
        refine TL.cons rfl (V1.t (V1.move' (by (conv => lhs; whnf) <;> rfl)) ?_)
        refine TL.cons rfl (V1.t (V1.move' (by (conv => lhs; whnf) <;> rfl)) ?_)
        refine TL.cons rfl (V1.t (V1.sliceTo 32 ty_22 sz_5 rfl rfl rfl (by rw [List.length_drop, keysB_len]; omega) hcb) ?_)
        refine TL.cons rfl (V1.t (V1.s2ap ty_26 rfl (by omega)) ?_)
        refine TL.cons rfl (V1.t (V1.loadN (vs := ((((keysB salt secret info c).drop (32 * i)).take 32).map byteV)) one_26 sz_26 rfl (RdN.frontB (p := (keysB salt secret info c).drop (32 * i)) (k := 32) (by repeat (first | exact Find.here | assumption | apply Find.there | apply Find.far))) (by rw [List.length_map]; exact hch)) ?_)
        refine TL.cons rfl (T1.buildSlN (os := [.tmp 44]) (vss := [((((keysB salt secret info c).drop (32 * i)).take 32).map byteV)]) ty_74 sz_26 zr_26 (by decide) rfl (.cons (by (conv => lhs; whnf) <;> rfl) .nil) (.cons rfl .nil) (by rfl) (by intro l hl; obtain rfl := List.mem_singleton.1 hl; rw [List.length_map]; exact hch) (fun b45 => ?_))
        simp only [List.flatten_cons, List.flatten_nil, List.append_nil]
        refine TL.cons rfl (T1.append ty_74 kd_74 sz_26 by_26 zr_26 rfl (by decide) (by decide) rfl rfl hso2 (.sl (n := 1) (RdN.at0 (cells := ((((keysB salt secret info c).drop (32 * i)).take 32).map byteV)) (by repeat (first | exact Find.here | assumption | apply Find.there | apply Find.far))) (by rw [List.length_map]; exact hch)) (one_bytes _) 1000 (by simp only [List.length_map, List.length_take, List.length_drop, keysB_len]; omega) (by omega) (by repeat (first | exact PickS.last | exact PickS.one | exact PickS.here | exact PickS.nil | apply PickS.there | apply PickS.far)) (fun s2 Ls2 hs2 => ?_))
        rw [← List.map_append, take_32] at hs2
        refine TL.cons rfl (V1.t (V1.assign' (by (conv => lhs; whnf) <;> rfl)) ?_)
        refine TL.nil ?_
        refine T.region ?_
        refine TL.cons rfl (V1.t (V1.move' (by (conv => lhs; whnf) <;> rfl)) ?_)
        refine TL.cons rfl (T1.sliceFwd (cells := ((keysB salt secret info c).drop (32 * i)).map byteV) (Ls := [⟨bb, ob, ((keysB salt secret info c).drop (32 * i)).map byteV, zb⟩]) ty_22 sz_5 rfl hsb (by repeat (first | exact PickS.last | exact PickS.one | exact PickS.here | exact PickS.nil | apply PickS.there | apply PickS.far)) 32 rfl (by rw [List.length_map]; rfl) (by rw [List.length_map, List.length_drop, keysB_len]; omega) (fun s3 Ls3 hs3 => ?_))
        rw [← List.map_drop, List.drop_drop, show 32 * i + 32 = 32 * (i + 1) from by omega] at hs3
        refine TL.cons rfl (V1.t (V1.assign' (by (conv => lhs; whnf) <;> rfl)) ?_)
        refine TL.nil ?_
        exact ⟨(i + 1, s2, s3, Ls2, Ls3), _, _, (by simp only; omega), (.cons rfl (.cons rfl .nil)), .nil, (by repeat (first | exact Take.nil | apply Take.one (by repeat (first | exact Pick.here | apply Pick.there | apply Pick.far)) | apply Take.seg (by repeat (first | exact PickS.last | exact PickS.one | exact PickS.here | exact PickS.nil | apply PickS.there | apply PickS.far)) | exact Take.last (by repeat (first | exact PickS.last | exact PickS.one | exact PickS.here | exact PickS.nil | apply PickS.there | apply PickS.far)))), ⟨rfl, hs2, hs3, by simp only; omega⟩⟩
      ·
        rw [List.length_drop, keysB_len] at h7_2
        obtain rfl : i = c := by omega
        refine TL.nil ?_
        refine T.cond_f rfl ?_
        refine T.exit ?_
        refine T.seq ?_
        refine T.region ?_
        refine TL.cons rfl (V1.t (V1.move' (by (conv => lhs; whnf) <;> rfl)) ?_)
        refine TL.cons rfl (V1.t (V1.assign' (by (conv => lhs; whnf) <;> rfl)) ?_)
        refine TL.cons rfl (V1.t (V1.assign' (by (conv => lhs; whnf) <;> rfl)) ?_)
        refine TL.nil ?_
        refine T.ret ?_
        rw [List.take_of_length_le (by rw [keysB_len]; exact Nat.le_refl _)] at hso2
        exact ⟨_, Lo ++ (Ps ++ G), _, .cons (.tmp (by (conv => lhs; whnf) <;> rfl)) (.cons (.tmp (by (conv => lhs; whnf) <;> rfl)) .nil), (by repeat (first | exact Take.nil | apply Take.one (by repeat (first | exact Pick.here | apply Pick.there | apply Pick.far)) | apply Take.seg (by repeat (first | exact PickS.last | exact PickS.one | exact PickS.here | exact PickS.nil | apply PickS.there | apply PickS.far)) | exact Take.last (by repeat (first | exact PickS.last | exact PickS.one | exact PickS.here | exact PickS.nil | apply PickS.there | apply PickS.far)))), Lo ++ Ps, by rw [List.append_assoc], .inr ⟨_, so2, Lo, rfl, hc8, rfl, hso2, rfl⟩⟩

end Go.Proofs.Ytelcmllfojfbfaa.S
