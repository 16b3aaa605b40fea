/- So many keys of what is hardly one, and the document's. -/
import Derived.Test.YtelcmllfojfbfaaM9
namespace Go.Proofs.Ytelcmllfojfbfaa.S
open Go.RowKit

open Sh

theorem keys_at {p : List UInt8} {i j : Nat} (h : 32 * i + j < p.length) (hj : j < 32) : ((p.drop (32 * i)).take 32)[j]? = some (p.getD (32 * i + j) 0) := by
  rw [List.getElem?_take_of_lt hj, List.getElem?_drop, getD_get 0 h]

set_option maxRecDepth 100000 in
set_option maxHeartbeats 4000000 in
theorem refKeys_any (salt secret info : List UInt8) (cc : Int) (w : World) (hsl : salt.length ≤ 200000000000000) (hkl : secret.length ≤ 199999999990000) (hil : info.length ≤ 1000000) : Fn P 41 [.string (bstr salt), .string (bstr secret), .string (bstr info), .int .i64 cc] w [] (fun r Y => ((cc < 0 ∨ 255 < cc) ∧ r = .tuple #[.slice none 0 0, .int .i64 1] ∧ Y = []) ∨ ∃ (c : Nat) (s : Value), cc = (c : Int) ∧ c ≤ 255 ∧ r = .tuple #[s, .int .i64 0] ∧ Sl s ((keysB salt secret info c).map byteV) 32 Y) := by
  refine Fn.of 58 [.tmp 8, .tmp 9] Go.Proofs.Try.func41 rfl rfl rfl rfl ?_
  refine T.seq ?_
  refine T.region ?_
  refine TL.cons rfl (V1.t (V1.assign' (by (conv => lhs; whnf) <;> rfl)) ?_)
  refine TL.cons rfl (V1.t (V1.assign' (by (conv => lhs; whnf) <;> rfl)) ?_)
  refine TL.nil ?_
  refine T.seq ?_
  refine T.seq ?_
  refine T.region ?_
  refine TL.cons rfl (V1.t (V1.move' (by (conv => lhs; whnf) <;> rfl)) ?_)
  refine TL.cons rfl (T1.ltI_split rfl rfl (fun h1_1 => ?_) (fun h1_1 => ?_))
  ·
    refine TL.cons rfl (V1.t (V1.move' (by (conv => lhs; whnf) <;> rfl)) ?_)
    refine TL.no rfl ?_
    refine TL.no rfl ?_
    refine TL.cons rfl (V1.t (V1.pick rfl (by (conv => lhs; whnf) <;> rfl)) ?_)
    refine TL.nil ?_
    refine T.cond_t rfl ?_
    refine T.seq ?_
    refine T.region ?_
    refine TL.cons rfl (V1.t (V1.assign' (by (conv => lhs; whnf) <;> rfl)) ?_)
    refine TL.cons rfl (V1.t (V1.assign' (by (conv => lhs; whnf) <;> rfl)) ?_)
    refine TL.nil ?_
    refine T.ret ?_
    exact ⟨_, [], _, .cons (.tmp (by (conv => lhs; whnf) <;> rfl)) (.cons (.tmp (by (conv => lhs; whnf) <;> rfl)) .nil), Take.nil, .inl ⟨by omega, rfl, rfl⟩⟩
  ·
    refine TL.cons rfl (V1.t (V1.move' (by (conv => lhs; whnf) <;> rfl)) ?_)
    refine TL.cons rfl (V1.t (V1.move' (by (conv => lhs; whnf) <;> rfl)) ?_)
    refine TL.cons rfl (T1.gtI_split rfl rfl (fun h1_4 => ?_) (fun h1_4 => ?_))
    ·
      refine TL.cons rfl (V1.t (V1.pick rfl (by (conv => lhs; whnf) <;> rfl)) ?_)
      refine TL.nil ?_
      refine T.cond_t rfl ?_
      refine T.seq ?_
      refine T.region ?_
      refine TL.cons rfl (V1.t (V1.assign' (by (conv => lhs; whnf) <;> rfl)) ?_)
      refine TL.cons rfl (V1.t (V1.assign' (by (conv => lhs; whnf) <;> rfl)) ?_)
      refine TL.nil ?_
      refine T.ret ?_
      exact ⟨_, [], _, .cons (.tmp (by (conv => lhs; whnf) <;> rfl)) (.cons (.tmp (by (conv => lhs; whnf) <;> rfl)) .nil), Take.nil, .inl ⟨by omega, rfl, rfl⟩⟩
    ·
      obtain ⟨c, rfl⟩ : ∃ c : Nat, cc = (c : Int) := ⟨cc.toNat, by omega⟩
      have hc8 : c ≤ 255 := by omega
      refine TL.cons rfl (V1.t (V1.pick rfl (by (conv => lhs; whnf) <;> rfl)) ?_)
      refine TL.nil ?_
      refine T.cond_f rfl ?_
      refine T.skip ?_
      refine T.seq ?_
      refine T.region ?_
      refine TL.cons rfl (V1.t (V1.move' (by (conv => lhs; whnf) <;> rfl)) ?_)
      refine TL.cons rfl (V1.t (V1.move' (by (conv => lhs; whnf) <;> rfl)) ?_)
      refine TL.cons rfl (T1.call0 has_26 rfl (fun w hs => refmac_any salt secret w (by omega) (by omega)) (fun v hv => ?_))
      subst hv
      refine TL.cons rfl (V1.t (V1.move' (by (conv => lhs; whnf) <;> rfl)) ?_)
      refine TL.cons rfl (V1.t (V1.mul (c := ((32 * c : Nat) : Int)) rfl rfl (by rw [wrap_i64 _ (by omega) (by omega)]; omega)) ?_)
      refine TL.cons rfl (V1.t (V1.move' (by (conv => lhs; whnf) <;> rfl)) ?_)
      refine TL.cons rfl (T1.call0 has_34 rfl (fun w hs => refExpand_any (hmac salt secret) info ((32 * c : Nat) : Int) w (hmac_len _ _) (by omega)) (fun v hv => ?_))
      rw [if_neg (by omega), Int.toNat_natCast] at hv
      subst hv
      rw [show expB (hmac salt secret) info (32 * c) = (keysB salt secret info c) from rfl]
      refine TL.cons rfl (V1.t (V1.move' (by (conv => lhs; whnf) <;> rfl)) ?_)
      refine TL.cons rfl (V1.t (V1.extract rfl (by rfl)) ?_)
      refine TL.cons rfl (V1.t (V1.extract rfl (by rfl)) ?_)
      refine TL.cons rfl (V1.t (V1.assign' (by (conv => lhs; whnf) <;> rfl)) ?_)
      refine TL.cons rfl (V1.t (V1.assign' (by (conv => lhs; whnf) <;> rfl)) ?_)
      refine TL.nil ?_
      refine T.seq ?_
      refine T.seq ?_
      refine T.live (l := [(3, _), (10, _), (11, _)]) (.cons (by (conv => lhs; whnf) <;> rfl) (.cons (by (conv => lhs; whnf) <;> rfl) (.cons (by (conv => lhs; whnf) <;> rfl) .nil))) (fun e_ => ?_)
      refine T.region ?_
      refine TL.cons rfl (V1.t (V1.move' (by (conv => lhs; whnf) <;> rfl)) ?_)
      refine TL.cons rfl (V1.t (V1.neI rfl rfl (decide_eq_false (by omega))) ?_)
      refine TL.nil ?_
      refine T.cond_f rfl ?_
      refine T.skip ?_
      refine T.seq ?_
      refine T.region ?_
      refine TL.cons rfl (V1.t (V1.assign' (by (conv => lhs; whnf) <;> rfl)) ?_)
      refine TL.nil ?_
      refine T.seq ?_
      refine T.seq ?_
      refine T.region ?_
      refine TL.cons rfl (V1.t (V1.assign' (by (conv => lhs; whnf) <;> rfl)) ?_)
      refine TL.nil ?_
      refine T.block ?_
      refine T.loopL (σ := Nat × Value × List Blk) (l0 := [(3, _), (10, _)]) (fun x => [(13, .int .i64 (x.1 : Nat)), (12, x.2.1)]) (fun x L => L = x.2.2 ++ [] ∧ Sl x.2.1 (((keysB salt secret info c).take (32 * x.1)).map byteV) 32 x.2.2 ∧ x.1 ≤ c) (fun x => c - x.1) (0, .slice none 0 0, []) (.cons rfl (.cons rfl .nil)) (.cons (by (conv => lhs; whnf) <;> rfl) (.cons (by (conv => lhs; whnf) <;> rfl) .nil)) (by repeat (first | exact Take.nil | apply Take.one (by repeat (first | exact Pick.here | apply Pick.there | apply Pick.far)) | apply Take.seg (by repeat (first | exact PickS.last | exact PickS.one | exact PickS.here | exact PickS.nil | apply PickS.there | apply PickS.far)) | exact Take.last (by repeat (first | exact PickS.last | exact PickS.one | exact PickS.here | exact PickS.nil | apply PickS.there | apply PickS.far)))) (⟨rfl, Sl.nil, Nat.zero_le _⟩) ?_
      rintro ⟨i, so2, Lo⟩ e_ L ⟨rfl, hso2, hi⟩
      simp only at hso2 hi
      refine T.seq ?_
      refine T.seq ?_
      refine T.region ?_
      refine TL.cons rfl (V1.t (V1.move' (by (conv => lhs; whnf) <;> rfl)) ?_)
      refine TL.cons rfl (V1.t (V1.move' (by (conv => lhs; whnf) <;> rfl)) ?_)
      refine TL.cons rfl (T1.ltI_split rfl rfl (fun h8_2 => ?_) (fun h8_2 => ?_))
      ·
        have hch : (((keysB salt secret info c).drop (32 * i)).take 32).length = 32 := by rw [List.length_take, List.length_drop, keysB_len]; omega
        refine TL.nil ?_
        refine T.cond_t rfl ?_
        refine T.skip ?_
        refine T.seq ?_
        refine T.block ?_
        refine T.seq ?_
        refine T.region ?_
        refine TL.cons rfl (V1.t (V1.buildA0 ty_26 sz_5 zr_26) ?_)
        refine TL.cons rfl (T1.allocN 32 zr_26 rfl (fun b14 => ?_))
        refine TL.cons rfl (T1.storeN (cells := List.replicate 32 (.int .u8 0)) rfl rfl sz_26 (by decide) (by repeat (first | exact Sub.one | apply Sub.there | apply Sub.far)) (by rfl) (by rfl) ?_)
        refine TL.nil ?_
        refine T.seq ?_
        refine T.seq ?_
        refine T.region ?_
        refine TL.cons rfl (V1.t (V1.assign' (by (conv => lhs; whnf) <;> rfl)) ?_)
        refine TL.nil ?_
        refine T.block ?_
        refine T.loopL (σ := Nat) (l0 := [(3, _), (10, _), (12, _), (13, _), (14, _)]) (fun x => [(15, .int .i64 (x : Nat))]) (fun x L => L = ⟨b14, 0, (((((keysB salt secret info c).drop (32 * i)).take 32).map byteV).take (x)) ++ (List.replicate 32 (.int .u8 0)).drop (x), 32⟩ :: (Lo ++ []) ∧ x ≤ 32) (fun x => 32 - x) 0 (.cons rfl .nil) (.cons (by (conv => lhs; whnf) <;> rfl) (.cons (by (conv => lhs; whnf) <;> rfl) (.cons (by (conv => lhs; whnf) <;> rfl) (.cons (by (conv => lhs; whnf) <;> rfl) (.cons (by (conv => lhs; whnf) <;> rfl) .nil))))) (by repeat (first | exact Take.nil | apply Take.one (by repeat (first | exact Pick.here | apply Pick.there | apply Pick.far)) | apply Take.seg (by repeat (first | exact PickS.last | exact PickS.one | exact PickS.here | exact PickS.nil | apply PickS.there | apply PickS.far)) | exact Take.last (by repeat (first | exact PickS.last | exact PickS.one | exact PickS.here | exact PickS.nil | apply PickS.there | apply PickS.far)))) (⟨rfl, Nat.zero_le _⟩) ?_
        rintro j e_ L ⟨rfl, hj⟩
        refine T.seq ?_
        refine T.seq ?_
        refine T.region ?_
        refine TL.cons rfl (V1.t (V1.move' (by (conv => lhs; whnf) <;> rfl)) ?_)
        refine TL.cons rfl (T1.ltI_split rfl rfl (fun h12_1 => ?_) (fun h12_1 => ?_))
        ·
          refine TL.nil ?_
          refine T.cond_t rfl ?_
          refine T.skip ?_
          refine T.seq ?_
          refine T.block ?_
          refine T.region ?_
          refine TL.cons rfl (V1.t (V1.move' (by (conv => lhs; whnf) <;> rfl)) ?_)
          refine TL.cons rfl (V1.t (V1.move' (by (conv => lhs; whnf) <;> rfl)) ?_)
          refine TL.cons rfl (V1.t (V1.move' (by (conv => lhs; whnf) <;> rfl)) ?_)
          refine TL.cons rfl (V1.t (V1.mul (c := ((32 * i : Nat) : Int)) rfl rfl (by rw [wrap_i64 _ (by omega) (by omega)]; omega)) ?_)
          refine TL.cons rfl (V1.t (V1.move' (by (conv => lhs; whnf) <;> rfl)) ?_)
          refine TL.cons rfl (V1.t (V1.add (c := ((32 * i + j : Nat) : Int)) rfl rfl (by rw [wrap_i64 _ (by omega) (by omega)]; omega)) ?_)
          refine TL.cons rfl (V1.t (V1.indexStr (s := bstr (keysB salt secret info c)) (c := (keysB salt secret info c).getD (32 * i + j) 0) ty_9 rfl rfl (by omega) (bstr_at (by rw [keysB_len]; omega))) ?_)
          refine TL.cons rfl (V1.t (V1.indexAddrA ty_26 sz_5 rfl rfl (by omega) (by omega)) ?_)
          refine TL.cons rfl (T1.storeE (o := 0 + j * 1) (cells := ((((keysB salt secret info c).drop (32 * i)).take 32).map byteV).take j ++ (List.replicate 32 (.int .u8 0)).drop j) (cells' := ((((keysB salt secret info c).drop (32 * i)).take 32).map byteV).take (j + 1) ++ (List.replicate 32 (.int .u8 0)).drop (j + 1)) (v := byteV ((keysB salt secret info c).getD (32 * i + j) 0)) rfl rfl sz_5 rfl (by rw [show 0 + j * 1 - 0 = j from by omega]; exact mix_set (by rw [List.length_map, hch, List.length_replicate]) (by rw [List.getElem?_map, keys_at (by rw [keysB_len]; omega) (by omega)]; rfl)) (by repeat (first | exact Sub.one | apply Sub.there | apply Sub.far)) (Nat.zero_le _) (by rw [List.length_append, List.length_take, List.length_drop, List.length_map, hch, List.length_replicate]; omega) ?_)
          refine TL.nil ?_
          refine T.region ?_
          refine TL.cons rfl (V1.t (V1.move' (by (conv => lhs; whnf) <;> rfl)) ?_)
          refine TL.cons rfl (V1.t (V1.add rfl rfl (wrap_i64 _ (by omega) (by omega))) ?_)
          refine TL.cons rfl (V1.t (V1.assign' (by (conv => lhs; whnf) <;> rfl)) ?_)
          refine TL.nil ?_
          exact ⟨j + 1, _, _, (by simp only; omega), (.cons rfl .nil), (.cons rfl (.cons rfl (.cons rfl (.cons rfl (.cons rfl .nil))))), (by repeat (first | exact Take.nil | apply Take.one (by repeat (first | exact Pick.here | apply Pick.there | apply Pick.far)) | apply Take.seg (by repeat (first | exact PickS.last | exact PickS.one | exact PickS.here | exact PickS.nil | apply PickS.there | apply PickS.far)) | exact Take.last (by repeat (first | exact PickS.last | exact PickS.one | exact PickS.here | exact PickS.nil | apply PickS.there | apply PickS.far)))), ⟨rfl, by omega⟩⟩
        ·
          obtain rfl : j = 32 := by omega
          rw [show ((((keysB salt secret info c).drop (32 * i)).take 32).map byteV).take 32 ++ (List.replicate 32 (.int .u8 0)).drop 32 = ((((keysB salt secret info c).drop (32 * i)).take 32).map byteV) from by rw [List.take_of_length_le (by rw [List.length_map, hch]; exact Nat.le_refl _)]; simp]
          refine TL.nil ?_
          refine T.cond_f rfl ?_
          refine T.exit ?_
          refine T.region ?_
          refine TL.cons rfl (V1.t (V1.move' (by (conv => lhs; whnf) <;> rfl)) ?_)
          refine TL.cons rfl (V1.t (V1.loadN (vs := ((((keysB salt secret info c).drop (32 * i)).take 32).map byteV)) one_26 sz_26 rfl (RdN.whole (by repeat (first | exact Find.here | assumption | apply Find.there | apply Find.far))) (by rw [List.length_map]; exact hch)) ?_)
          refine TL.cons rfl (T1.buildSlN (os := [.tmp 54]) (vss := [((((keysB salt secret info c).drop (32 * i)).take 32).map byteV)]) ty_74 sz_26 zr_26 (by decide) rfl (.cons (by (conv => lhs; whnf) <;> rfl) .nil) (.cons rfl .nil) (by rfl) (by intro l hl; obtain rfl := List.mem_singleton.1 hl; rw [List.length_map]; exact hch) (fun b55 => ?_))
          simp only [List.flatten_cons, List.flatten_nil, List.append_nil]
          refine TL.cons rfl (T1.append ty_74 kd_74 sz_26 by_26 zr_26 rfl (by decide) (by decide) rfl rfl hso2 (.sl (n := 1) (RdN.at0 (cells := ((((keysB salt secret info c).drop (32 * i)).take 32).map byteV)) (by repeat (first | exact Find.here | assumption | apply Find.there | apply Find.far))) (by rw [List.length_map]; exact hch)) (one_bytes _) 1000 (by simp only [List.length_map, List.length_take, List.length_drop, keysB_len]; omega) (by omega) (by repeat (first | exact PickS.last | exact PickS.one | exact PickS.here | exact PickS.nil | apply PickS.there | apply PickS.far)) (fun s2 Ls2 hs2 => ?_))
          rw [← List.map_append, take_32] at hs2
          refine TL.cons rfl (V1.t (V1.assign' (by (conv => lhs; whnf) <;> rfl)) ?_)
          refine TL.nil ?_
          refine T.region ?_
          refine TL.cons rfl (V1.t (V1.move' (by (conv => lhs; whnf) <;> rfl)) ?_)
          refine TL.cons rfl (V1.t (V1.add rfl rfl (wrap_i64 _ (by omega) (by omega))) ?_)
          refine TL.cons rfl (V1.t (V1.assign' (by (conv => lhs; whnf) <;> rfl)) ?_)
          refine TL.nil ?_
          exact ⟨(i + 1, s2, Ls2), _, _, (by simp only; omega), (.cons rfl (.cons rfl .nil)), (.cons rfl (.cons rfl .nil)), (by repeat (first | exact Take.nil | apply Take.one (by repeat (first | exact Pick.here | apply Pick.there | apply Pick.far)) | apply Take.seg (by repeat (first | exact PickS.last | exact PickS.one | exact PickS.here | exact PickS.nil | apply PickS.there | apply PickS.far)) | exact Take.last (by repeat (first | exact PickS.last | exact PickS.one | exact PickS.here | exact PickS.nil | apply PickS.there | apply PickS.far)))), ⟨rfl, hs2, by simp only; omega⟩⟩
      ·
        obtain rfl : i = c := by omega
        refine TL.nil ?_
        refine T.cond_f rfl ?_
        refine T.exit ?_
        refine T.seq ?_
        refine T.region ?_
        refine TL.cons rfl (V1.t (V1.move' (by (conv => lhs; whnf) <;> rfl)) ?_)
        refine TL.cons rfl (V1.t (V1.assign' (by (conv => lhs; whnf) <;> rfl)) ?_)
        refine TL.cons rfl (V1.t (V1.assign' (by (conv => lhs; whnf) <;> rfl)) ?_)
        refine TL.nil ?_
        refine T.ret ?_
        rw [List.take_of_length_le (by rw [keysB_len]; exact Nat.le_refl _)] at hso2
        exact ⟨_, Lo, _, .cons (.tmp (by (conv => lhs; whnf) <;> rfl)) (.cons (.tmp (by (conv => lhs; whnf) <;> rfl)) .nil), (by repeat (first | exact Take.nil | apply Take.one (by repeat (first | exact Pick.here | apply Pick.there | apply Pick.far)) | apply Take.seg (by repeat (first | exact PickS.last | exact PickS.one | exact PickS.here | exact PickS.nil | apply PickS.there | apply PickS.far)) | exact Take.last (by repeat (first | exact PickS.last | exact PickS.one | exact PickS.here | exact PickS.nil | apply PickS.there | apply PickS.far)))), .inr ⟨_, so2, rfl, hc8, rfl, hso2⟩⟩

theorem Sl.at32 {v : Value} {p : List UInt8} {n : Nat} {Ls : List Blk} (h : Sl v (p.map byteV) 32 Ls) (hp : p.length = 32 * n) : ∃ a c, v = .slice a n c := by
  rcases h with ⟨rfl, hx, rfl⟩ | ⟨b, off, len, cap, size, rfl, h1, h2, h3, rfl⟩
  · have := congrArg List.length hx
    simp only [List.length_map, List.length_nil] at this
    obtain rfl : n = 0 := by omega
    exact ⟨none, 0, rfl⟩
  · rw [List.length_map] at h1
    obtain rfl : len = n := by omega
    exact ⟨_, _, rfl⟩
theorem Sl.own32 {a : Option Addr} {p : List UInt8} {n c : Nat} {Ls : List Blk} (h : Sl (.slice a n c) (p.map byteV) 32 Ls) (hn : 0 < n) : ∃ b off size, a = some ⟨b, off, none⟩ ∧ Ls = [⟨b, off, p.map byteV, size⟩] := by
  rcases h with ⟨h0, hx, rfl⟩ | ⟨b, off, len, cap, size, h0, h1, h2, h3, rfl⟩
  · cases h0; omega
  · cases h0; exact ⟨_, _, _, rfl, rfl⟩
theorem RdN.key {C : Ctx} {L : List Blk} {b off size i : Nat} {p : List UInt8} (hf : Find L ⟨b, off, p.map byteV, size⟩) : RdN C L ⟨b, off + ((i : Nat) : Int).toNat * 32, none⟩ (((p.drop (32 * i)).take 32).map byteV) := by
  have := RdN.sub (C := C) (o := ((i : Nat) : Int).toNat * 32) (k := 32) hf
  rw [← List.map_drop, ← List.map_take, Int.toNat_natCast, Nat.mul_comm i 32] at this
  rw [Int.toNat_natCast, Nat.mul_comm i 32]; exact this

set_option maxRecDepth 100000 in
set_option maxHeartbeats 8000000 in
theorem MacKeys_any (v0 v1 : Value) (salt secret : List UInt8) (cc : Int) (w0 : World) (ha : SlR w0 v0 1 salt.length (salt.map byteV)) (hk : SlR w0 v1 1 secret.length (secret.map byteV)) : Fn P 16 [v0, v1, .int .i64 cc] w0 [] (fun v _ => v = .bool true) := by
  obtain ⟨aa, ac, rfl⟩ := ha.form
  obtain ⟨ka, kc, rfl⟩ := hk.form
  obtain ⟨a2, ha2d⟩ : ∃ z, z = salt.take 100 := ⟨_, rfl⟩
  have ha2l : a2.length ≤ 100 := by rw [ha2d, List.length_take]; omega
  have ha2 := slV_is ha 0 (min salt.length 100) (Nat.zero_le _) (Nat.min_le_left _ _)
  rw [Nat.sub_zero, List.drop_zero, show salt.take (min salt.length 100) = a2 from by rw [ha2d, List.take_eq_take_iff]; omega] at ha2
  replace ha2 : SlR w0 (slV aa ac 0 (min salt.length 100)) 1 a2.length (a2.map byteV) := by rw [show a2.length = min salt.length 100 from by rw [ha2d, List.length_take, Nat.min_comm]]; exact ha2
  obtain ⟨aa2, ac2, ha2e⟩ := ha2.form
  rw [ha2e] at ha2
  obtain ⟨k2, hk2d⟩ : ∃ z, z = secret.take 100 := ⟨_, rfl⟩
  have hk2l : k2.length ≤ 100 := by rw [hk2d, List.length_take]; omega
  have hk2 := slV_is hk 0 (min secret.length 100) (Nat.zero_le _) (Nat.min_le_left _ _)
  rw [Nat.sub_zero, List.drop_zero, show secret.take (min secret.length 100) = k2 from by rw [hk2d, List.take_eq_take_iff]; omega] at hk2
  replace hk2 : SlR w0 (slV ka kc 0 (min secret.length 100)) 1 k2.length (k2.map byteV) := by rw [show k2.length = min secret.length 100 from by rw [hk2d, List.length_take, Nat.min_comm]]; exact hk2
  obtain ⟨ka2, kc2, hk2e⟩ := hk2.form
  rw [hk2e] at hk2
  refine Fn.of 71 [.tmp 6] Go.Proofs.Try.func16 rfl rfl rfl rfl ?_
  refine T.seq ?_
  refine T.region ?_
  refine TL.cons rfl (V1.t (V1.assign' (by (conv => lhs; whnf) <;> rfl)) ?_)
  refine TL.nil ?_
  refine T.seq ?_
  refine T.seq ?_
  refine T.region ?_
  refine TL.cons rfl (T1.call0 has_24 rfl (fun w hs => known_any w) (fun v hv => ?_))
  subst hv
  refine TL.cons rfl (V1.t (V1.not rfl rfl) ?_)
  refine TL.nil ?_
  refine T.cond_f rfl ?_
  refine T.skip ?_
  refine T.seq ?_
  refine T.drawDet' mixed (by decide +kernel) ?_
  refine Det.cons 0 (ins := [(0, _)]) (.old (by (conv => lhs; whnf) <;> rfl) (by decide +kernel) .nil) (fun e_ => .inl ⟨rfl, V1.t (V1.move' (by (conv => lhs; whnf) <;> rfl)) ⟨rfl, rfl⟩⟩) ?_
  refine Det.cons 1 (ins := [(0, _)]) (.old (by (conv => lhs; whnf) <;> rfl) (by decide +kernel) .nil) (fun e_ => .inl ⟨rfl, V1.t (V1.move' (by (conv => lhs; whnf) <;> rfl)) ⟨rfl, rfl⟩⟩) ?_
  refine Det.cons 2 (ins := [(15, _)]) (.new 1 0 (by decide +kernel) rfl rfl .nil) (fun e_ => .inl ⟨rfl, V1.t (V1.lenSl ty_22 rfl) ⟨rfl, rfl⟩⟩) ?_
  refine Det.cons 3 (ins := [(16, _)]) (.new 2 0 (by decide +kernel) rfl rfl .nil) (fun e_ => .inl ⟨rfl, V1.t (V1.min2 (c := ((min salt.length 100 : Nat) : Int)) rfl rfl (by omega)) ⟨rfl, rfl⟩⟩) ?_
  refine Det.cons 4 (ins := [(14, _), (17, _)]) (.new 0 3 (by decide +kernel) rfl rfl (.new 3 0 (by decide +kernel) rfl rfl .nil)) (fun e_ => .inl ⟨rfl, V1.t (show V1 _ _ _ _ (.slice aa2 a2.length ac2) from by rw [← ha2e]; exact V1.sliceR1 ty_22 sz_5 ha rfl (0) (min salt.length 100) rfl rfl (by omega) (by omega)) ⟨rfl, rfl⟩⟩) ?_
  refine Det.cons 5 (ins := [(1, _)]) (.old (by (conv => lhs; whnf) <;> rfl) (by decide +kernel) .nil) (fun e_ => .inl ⟨rfl, V1.t (V1.move' (by (conv => lhs; whnf) <;> rfl)) ⟨rfl, rfl⟩⟩) ?_
  refine Det.cons 6 (ins := [(1, _)]) (.old (by (conv => lhs; whnf) <;> rfl) (by decide +kernel) .nil) (fun e_ => .inl ⟨rfl, V1.t (V1.move' (by (conv => lhs; whnf) <;> rfl)) ⟨rfl, rfl⟩⟩) ?_
  refine Det.cons 7 (ins := [(20, _)]) (.new 6 0 (by decide +kernel) rfl rfl .nil) (fun e_ => .inl ⟨rfl, V1.t (V1.lenSl ty_22 rfl) ⟨rfl, rfl⟩⟩) ?_
  refine Det.cons 8 (ins := [(21, _)]) (.new 7 0 (by decide +kernel) rfl rfl .nil) (fun e_ => .inl ⟨rfl, V1.t (V1.min2 (c := ((min secret.length 100 : Nat) : Int)) rfl rfl (by omega)) ⟨rfl, rfl⟩⟩) ?_
  refine Det.cons 9 (ins := [(19, _), (22, _)]) (.new 5 3 (by decide +kernel) rfl rfl (.new 8 0 (by decide +kernel) rfl rfl .nil)) (fun e_ => .inl ⟨rfl, V1.t (show V1 _ _ _ _ (.slice ka2 k2.length kc2) from by rw [← hk2e]; exact V1.sliceR1 ty_22 sz_5 hk rfl (0) (min secret.length 100) rfl rfl (by omega) (by omega)) ⟨rfl, rfl⟩⟩) ?_
  refine Det.cons 10 (ins := [(18, _)]) (.new 4 5 (by decide +kernel) rfl rfl .nil) (fun e_ => .inl ⟨rfl, V1.t (V1.assign' (by (conv => lhs; whnf) <;> rfl)) ⟨rfl, rfl⟩⟩) ?_
  refine Det.cons 11 (ins := [(23, _)]) (.new 9 1 (by decide +kernel) rfl rfl .nil) (fun e_ => .inl ⟨rfl, V1.t (V1.assign' (by (conv => lhs; whnf) <;> rfl)) ⟨rfl, rfl⟩⟩) ?_
  refine Det.nil 12 (l := [(0, _), (1, _), (2, _)]) (.new 10 1 (by decide +kernel) rfl rfl (.new 11 0 (by decide +kernel) rfl rfl (.old (by (conv => lhs; whnf) <;> rfl) (by decide +kernel) .nil))) (fun e_ => ?_)
  refine T.seq ?_
  refine T.seq ?_
  refine T.region ?_
  refine TL.cons rfl (V1.t (V1.move' (by (conv => lhs; whnf) <;> rfl)) ?_)
  refine TL.cons rfl (T1.gtI_split rfl rfl (fun h4_1 => ?_) (fun h4_1 => ?_))
  ·
    refine TL.cons rfl (V1.t (V1.move' (by (conv => lhs; whnf) <;> rfl)) ?_)
    refine TL.cons rfl (V1.t (V1.move' (by (conv => lhs; whnf) <;> rfl)) ?_)
    refine TL.cons rfl (T1.leI_split rfl rfl (fun h4_4 => ?_) (fun h4_4 => ?_))
    ·
      refine TL.cons rfl (V1.t (V1.pick rfl (by (conv => lhs; whnf) <;> rfl)) ?_)
      refine TL.nil ?_
      refine T.cond_t rfl ?_
      refine T.region ?_
      refine TL.cons rfl (V1.t (V1.assign' (by (conv => lhs; whnf) <;> rfl)) ?_)
      refine TL.nil ?_
      refine T.seq ?_
      refine T.region ?_
      refine TL.cons rfl (V1.t (V1.move' (by (conv => lhs; whnf) <;> rfl)) ?_)
      refine TL.cons rfl (V1.t (V1.move' (by (conv => lhs; whnf) <;> rfl)) ?_)
      refine TL.cons rfl (V1.t (V1.move' (by (conv => lhs; whnf) <;> rfl)) ?_)
      refine TL.cons rfl (T1.callX (X := []) has_40 rfl (Keys_any _ _ _ a2 k2 ([105, 110, 102, 111] : List UInt8) 9 [] (PartR.old ha2) (by omega) (PartR.old hk2) (by omega) (by decide)) Take.nil (fun v Y hY => ?_))
      rcases hY with ⟨hbad, rfl, rfl⟩ | ⟨c, so, Ls, hc, hc8, rfl, hso, rfl⟩
      ·
        simp only [List.nil_append, List.append_nil]
        refine TL.cons rfl (V1.t (V1.move' (by (conv => lhs; whnf) <;> rfl)) ?_)
        refine TL.cons rfl (V1.t (V1.extract rfl (by rfl)) ?_)
        refine TL.cons rfl (V1.t (V1.extract rfl (by rfl)) ?_)
        refine TL.cons rfl (V1.t (V1.assign' (by (conv => lhs; whnf) <;> rfl)) ?_)
        refine TL.cons rfl (V1.t (V1.assign' (by (conv => lhs; whnf) <;> rfl)) ?_)
        refine TL.nil ?_
        refine T.seq ?_
        refine T.live (l := [(0, _), (1, _), (2, _), (7, _), (8, _)]) (.cons (by (conv => lhs; whnf) <;> rfl) (.cons (by (conv => lhs; whnf) <;> rfl) (.cons (by (conv => lhs; whnf) <;> rfl) (.cons (by (conv => lhs; whnf) <;> rfl) (.cons (by (conv => lhs; whnf) <;> rfl) .nil))))) (fun e_ => ?_)
        refine T.region ?_
        refine TL.cons rfl (V1.t (V1.move' (by (conv => lhs; whnf) <;> rfl)) ?_)
        refine TL.cons rfl (V1.t (V1.bytesToStr (l := a2) ty_22 ty_5 ty_9 rfl (ha2.src rfl) (by intro b h; cases h)) ?_)
        refine TL.cons rfl (V1.t (V1.move' (by (conv => lhs; whnf) <;> rfl)) ?_)
        refine TL.cons rfl (V1.t (V1.bytesToStr (l := k2) ty_22 ty_5 ty_9 rfl (hk2.src rfl) (by intro b h; cases h)) ?_)
        refine TL.cons rfl (V1.t (V1.move' (by (conv => lhs; whnf) <;> rfl)) ?_)
        refine TL.cons rfl (T1.callN has_41 rfl (fun w hs => refKeys_any a2 k2 ([105, 110, 102, 111] : List UInt8) 9 w (by omega) (by omega) (by decide)) (fun v Y hY => ?_))
        obtain ⟨rfl, rfl⟩ : v = .tuple #[.slice none 0 0, .int .i64 1] ∧ Y = [] := by
          rcases hY with ⟨_, rfl, rfl⟩ | ⟨c2, so2, hc2, hc82, rfl, hso2⟩
          · exact ⟨rfl, rfl⟩
          · exfalso; omega
        simp only [List.nil_append, List.append_nil]
        refine TL.cons rfl (V1.t (V1.move' (by (conv => lhs; whnf) <;> rfl)) ?_)
        refine TL.cons rfl (V1.t (V1.extract rfl (by rfl)) ?_)
        refine TL.cons rfl (V1.t (V1.extract rfl (by rfl)) ?_)
        refine TL.cons rfl (V1.t (V1.assign' (by (conv => lhs; whnf) <;> rfl)) ?_)
        refine TL.cons rfl (V1.t (V1.assign' (by (conv => lhs; whnf) <;> rfl)) ?_)
        refine TL.nil ?_
        refine T.seq ?_
        refine T.seq ?_
        refine T.region ?_
        refine TL.cons rfl (V1.t (V1.move' (by (conv => lhs; whnf) <;> rfl)) ?_)
        refine TL.cons rfl (V1.t (V1.move' (by (conv => lhs; whnf) <;> rfl)) ?_)
        refine TL.cons rfl (V1.t (V1.neI rfl rfl (decide_eq_false (by omega))) ?_)
        refine TL.cons rfl (V1.t (V1.move' (by (conv => lhs; whnf) <;> rfl)) ?_)
        refine TL.cons rfl (V1.t (V1.move' (by (conv => lhs; whnf) <;> rfl)) ?_)
        refine TL.cons rfl (V1.t (V1.lenSl ty_74 rfl) ?_)
        refine TL.cons rfl (V1.t (V1.move' (by (conv => lhs; whnf) <;> rfl)) ?_)
        refine TL.cons rfl (V1.t (V1.lenSl ty_74 rfl) ?_)
        refine TL.cons rfl (V1.t (V1.neI rfl rfl (decide_eq_false (by omega))) ?_)
        refine TL.cons rfl (V1.t (V1.pick rfl (by (conv => lhs; whnf) <;> rfl)) ?_)
        refine TL.nil ?_
        refine T.cond_f rfl ?_
        refine T.skip ?_
        refine T.seq ?_
        refine T.seq ?_
        refine T.live (l := [(7, _), (9, _)]) (.cons (by (conv => lhs; whnf) <;> rfl) (.cons (by (conv => lhs; whnf) <;> rfl) .nil)) (fun e_ => ?_)
        refine T.region ?_
        refine TL.cons rfl (V1.t (V1.move' (by (conv => lhs; whnf) <;> rfl)) ?_)
        refine TL.cons rfl (V1.t (V1.lenSl ty_74 rfl) ?_)
        refine TL.cons rfl (V1.t (V1.move' (by (conv => lhs; whnf) <;> rfl)) ?_)
        refine TL.nil ?_
        refine T.block ?_
        refine T.loopL (σ := Nat) (l0 := [(7, _), (9, _), (57, _)]) (fun x => [(58, .int .i64 0)]) (fun x L => L = []) (fun x => 0) 0 (.cons rfl .nil) (.cons (by (conv => lhs; whnf) <;> rfl) (.cons (by (conv => lhs; whnf) <;> rfl) (.cons (by (conv => lhs; whnf) <;> rfl) .nil))) (by repeat (first | exact Take.nil | apply Take.one (by repeat (first | exact Pick.here | apply Pick.there | apply Pick.far)) | apply Take.seg (by repeat (first | exact PickS.last | exact PickS.one | exact PickS.here | exact PickS.nil | apply PickS.there | apply PickS.far)) | exact Take.last (by repeat (first | exact PickS.last | exact PickS.one | exact PickS.here | exact PickS.nil | apply PickS.there | apply PickS.far)))) (rfl) ?_
        rintro i e_ L rfl
        refine T.seq ?_
        refine T.region ?_
        refine TL.cons rfl (V1.t (V1.ltI rfl rfl (decide_eq_false (by omega))) ?_)
        refine TL.nil ?_
        refine T.seq ?_
        refine T.cond_f rfl ?_
        refine T.exit ?_
        refine T.seq ?_
        refine T.region ?_
        refine TL.cons rfl (V1.t (V1.assign' (by (conv => lhs; whnf) <;> rfl)) ?_)
        refine TL.nil ?_
        refine T.ret ?_
        exact ⟨_, [], _, .cons (.tmp (by (conv => lhs; whnf) <;> rfl)) .nil, Take.nil, rfl⟩
      ·
        simp only [List.nil_append, List.append_nil]
        obtain ⟨sa, sc, rfl⟩ := hso.at32 (keysB_len _ _ _ _)
        refine TL.cons rfl (V1.t (V1.move' (by (conv => lhs; whnf) <;> rfl)) ?_)
        refine TL.cons rfl (V1.t (V1.extract rfl (by rfl)) ?_)
        refine TL.cons rfl (V1.t (V1.extract rfl (by rfl)) ?_)
        refine TL.cons rfl (V1.t (V1.assign' (by (conv => lhs; whnf) <;> rfl)) ?_)
        refine TL.cons rfl (V1.t (V1.assign' (by (conv => lhs; whnf) <;> rfl)) ?_)
        refine TL.nil ?_
        refine T.seq ?_
        refine T.live (l := [(0, _), (1, _), (2, _), (7, _), (8, _)]) (.cons (by (conv => lhs; whnf) <;> rfl) (.cons (by (conv => lhs; whnf) <;> rfl) (.cons (by (conv => lhs; whnf) <;> rfl) (.cons (by (conv => lhs; whnf) <;> rfl) (.cons (by (conv => lhs; whnf) <;> rfl) .nil))))) (fun e_ => ?_)
        refine T.region ?_
        refine TL.cons rfl (V1.t (V1.move' (by (conv => lhs; whnf) <;> rfl)) ?_)
        refine TL.cons rfl (V1.t (V1.bytesToStr (l := a2) ty_22 ty_5 ty_9 rfl (ha2.src rfl) (by intro b h; cases h)) ?_)
        refine TL.cons rfl (V1.t (V1.move' (by (conv => lhs; whnf) <;> rfl)) ?_)
        refine TL.cons rfl (V1.t (V1.bytesToStr (l := k2) ty_22 ty_5 ty_9 rfl (hk2.src rfl) (by intro b h; cases h)) ?_)
        refine TL.cons rfl (V1.t (V1.move' (by (conv => lhs; whnf) <;> rfl)) ?_)
        refine TL.cons rfl (T1.callN has_41 rfl (fun w hs => refKeys_any a2 k2 ([105, 110, 102, 111] : List UInt8) 9 w (by omega) (by omega) (by decide)) (fun v Y hY => ?_))
        rcases hY with ⟨hbad2, rfl, rfl⟩ | ⟨c2, so2, hc2, hc82, rfl, hso2⟩
        · exfalso; omega
        obtain rfl : c = c2 := by omega
        obtain ⟨ra, rc, rfl⟩ := hso2.at32 (keysB_len _ _ _ _)
        refine TL.cons rfl (V1.t (V1.move' (by (conv => lhs; whnf) <;> rfl)) ?_)
        refine TL.cons rfl (V1.t (V1.extract rfl (by rfl)) ?_)
        refine TL.cons rfl (V1.t (V1.extract rfl (by rfl)) ?_)
        refine TL.cons rfl (V1.t (V1.assign' (by (conv => lhs; whnf) <;> rfl)) ?_)
        refine TL.cons rfl (V1.t (V1.assign' (by (conv => lhs; whnf) <;> rfl)) ?_)
        refine TL.nil ?_
        refine T.seq ?_
        refine T.seq ?_
        refine T.region ?_
        refine TL.cons rfl (V1.t (V1.move' (by (conv => lhs; whnf) <;> rfl)) ?_)
        refine TL.cons rfl (V1.t (V1.move' (by (conv => lhs; whnf) <;> rfl)) ?_)
        refine TL.cons rfl (V1.t (V1.neI rfl rfl (decide_eq_false (by omega))) ?_)
        refine TL.cons rfl (V1.t (V1.move' (by (conv => lhs; whnf) <;> rfl)) ?_)
        refine TL.cons rfl (V1.t (V1.move' (by (conv => lhs; whnf) <;> rfl)) ?_)
        refine TL.cons rfl (V1.t (V1.lenSl ty_74 rfl) ?_)
        refine TL.cons rfl (V1.t (V1.move' (by (conv => lhs; whnf) <;> rfl)) ?_)
        refine TL.cons rfl (V1.t (V1.lenSl ty_74 rfl) ?_)
        refine TL.cons rfl (V1.t (V1.neI rfl rfl (decide_eq_false (by omega))) ?_)
        refine TL.cons rfl (V1.t (V1.pick rfl (by (conv => lhs; whnf) <;> rfl)) ?_)
        refine TL.nil ?_
        refine T.cond_f rfl ?_
        refine T.skip ?_
        refine T.seq ?_
        refine T.seq ?_
        refine T.live (l := [(7, _), (9, _)]) (.cons (by (conv => lhs; whnf) <;> rfl) (.cons (by (conv => lhs; whnf) <;> rfl) .nil)) (fun e_ => ?_)
        refine T.region ?_
        refine TL.cons rfl (V1.t (V1.move' (by (conv => lhs; whnf) <;> rfl)) ?_)
        refine TL.cons rfl (V1.t (V1.lenSl ty_74 rfl) ?_)
        refine TL.cons rfl (V1.t (V1.move' (by (conv => lhs; whnf) <;> rfl)) ?_)
        refine TL.nil ?_
        refine T.block ?_
        refine T.loopL (σ := Nat) (l0 := [(7, _), (9, _), (57, _)]) (fun x => [(58, .int .i64 (x : Nat))]) (fun x L => L = Y ++ Ls ∧ x ≤ c) (fun x => c - x) 0 (.cons rfl .nil) (.cons (by (conv => lhs; whnf) <;> rfl) (.cons (by (conv => lhs; whnf) <;> rfl) (.cons (by (conv => lhs; whnf) <;> rfl) .nil))) (by repeat (first | exact Take.nil | apply Take.one (by repeat (first | exact Pick.here | apply Pick.there | apply Pick.far)) | apply Take.seg (by repeat (first | exact PickS.last | exact PickS.one | exact PickS.here | exact PickS.nil | apply PickS.there | apply PickS.far)) | exact Take.last (by repeat (first | exact PickS.last | exact PickS.one | exact PickS.here | exact PickS.nil | apply PickS.there | apply PickS.far)))) (⟨rfl, Nat.zero_le _⟩) ?_
        rintro i e_ L ⟨rfl, hi⟩
        refine T.seq ?_
        refine T.region ?_
        refine TL.cons rfl (T1.ltI_split rfl rfl (fun h11_0 => ?_) (fun h11_0 => ?_))
        ·
          obtain ⟨ba, oa, za, rfl, rfl⟩ := hso.own32 (by omega)
          obtain ⟨bb, ob, zb, rfl, rfl⟩ := hso2.own32 (by omega)
          have hch : (((keysB a2 k2 ([105, 110, 102, 111] : List UInt8) c).drop (32 * i)).take 32).length = 32 := by rw [List.length_take, List.length_drop, keysB_len]; omega
          refine TL.nil ?_
          refine T.seq ?_
          refine T.cond_t rfl ?_
          refine T.skip ?_
          refine T.seq ?_
          refine T.block ?_
          refine T.seq ?_
          refine T.region ?_
          refine TL.cons rfl (V1.t (V1.move' (by (conv => lhs; whnf) <;> rfl)) ?_)
          refine TL.cons rfl (V1.t (V1.assign' (by (conv => lhs; whnf) <;> rfl)) ?_)
          refine TL.nil ?_
          refine T.seq ?_
          refine T.drawDet' mixed (by decide +kernel) ?_
          refine Det.cons 0 (ins := [(7, _)]) (.old (by (conv => lhs; whnf) <;> rfl) (by decide +kernel) .nil) (fun e_ => .inl ⟨rfl, V1.t (V1.move' (by (conv => lhs; whnf) <;> rfl)) ⟨rfl, rfl⟩⟩) ?_
          refine Det.cons 1 (ins := [(11, _)]) (.old (by (conv => lhs; whnf) <;> rfl) (by decide +kernel) .nil) (fun e_ => .inl ⟨rfl, V1.t (V1.move' (by (conv => lhs; whnf) <;> rfl)) ⟨rfl, rfl⟩⟩) ?_
          refine Det.cons 2 (ins := [(61, _), (62, _)]) (.new 0 1 (by decide +kernel) rfl rfl (.new 1 0 (by decide +kernel) rfl rfl .nil)) (fun e_ => .inl ⟨rfl, V1.t (V1.indexAddrS ty_74 sz_26 rfl rfl (by omega) (by omega)) ⟨rfl, rfl⟩⟩) ?_
          refine Det.cons 3 (ins := [(63, _)]) (.new 2 0 (by decide +kernel) rfl rfl .nil) (fun e_ => .inl ⟨rfl, V1.t (V1.loadN (vs := (((keysB a2 k2 ([105, 110, 102, 111] : List UInt8) c).drop (32 * i)).take 32).map byteV) one_26 sz_26 rfl (RdN.key (by repeat (first | exact Find.here | assumption | apply Find.there | apply Find.far))) (by rw [List.length_map]; exact hch)) ⟨rfl, rfl⟩⟩) ?_
          refine Det.cons 4 (ins := [(9, _)]) (.old (by (conv => lhs; whnf) <;> rfl) (by decide +kernel) .nil) (fun e_ => .inl ⟨rfl, V1.t (V1.move' (by (conv => lhs; whnf) <;> rfl)) ⟨rfl, rfl⟩⟩) ?_
          refine Det.cons 5 (ins := [(11, _)]) (.old (by (conv => lhs; whnf) <;> rfl) (by decide +kernel) .nil) (fun e_ => .inl ⟨rfl, V1.t (V1.move' (by (conv => lhs; whnf) <;> rfl)) ⟨rfl, rfl⟩⟩) ?_
          refine Det.cons 6 (ins := [(65, _), (66, _)]) (.new 4 1 (by decide +kernel) rfl rfl (.new 5 0 (by decide +kernel) rfl rfl .nil)) (fun e_ => .inl ⟨rfl, V1.t (V1.indexAddrS ty_74 sz_26 rfl rfl (by omega) (by omega)) ⟨rfl, rfl⟩⟩) ?_
          refine Det.cons 7 (ins := [(67, _)]) (.new 6 0 (by decide +kernel) rfl rfl .nil) (fun e_ => .inl ⟨rfl, V1.t (V1.loadN (vs := (((keysB a2 k2 ([105, 110, 102, 111] : List UInt8) c).drop (32 * i)).take 32).map byteV) one_26 sz_26 rfl (RdN.key (by repeat (first | exact Find.here | assumption | apply Find.there | apply Find.far))) (by rw [List.length_map]; exact hch)) ⟨rfl, rfl⟩⟩) ?_
          refine Det.cons 8 (ins := [(64, _), (68, _)]) (.new 3 4 (by decide +kernel) rfl rfl (.new 7 0 (by decide +kernel) rfl rfl .nil)) (fun e_ => .inl ⟨rfl, V1.t (V1.neBs (r := false) ty_26 ty_5 sz_5 eg_26 rfl rfl hch hch (by simp)) ⟨rfl, rfl⟩⟩) ?_
          refine Det.nil 9 (l := [(7, _), (9, _), (57, _), (58, _), (69, _)]) (.old (by (conv => lhs; whnf) <;> rfl) (by decide +kernel) (.old (by (conv => lhs; whnf) <;> rfl) (by decide +kernel) (.old (by (conv => lhs; whnf) <;> rfl) (by decide +kernel) (.old (by (conv => lhs; whnf) <;> rfl) (by decide +kernel) (.new 8 0 (by decide +kernel) rfl rfl .nil))))) (fun e_ => ?_)
          refine T.cond_f rfl ?_
          refine T.skip ?_
          refine T.region ?_
          refine TL.cons rfl (V1.t (V1.add rfl rfl (wrap_i64 _ (by omega) (by omega))) ?_)
          refine TL.cons rfl (V1.t (V1.move' (by (conv => lhs; whnf) <;> rfl)) ?_)
          refine TL.nil ?_
          exact ⟨i + 1, _, _, (by simp only; omega), (.cons rfl .nil), (.cons rfl (.cons rfl (.cons rfl .nil))), (by repeat (first | exact Take.nil | apply Take.one (by repeat (first | exact Pick.here | apply Pick.there | apply Pick.far)) | apply Take.seg (by repeat (first | exact PickS.last | exact PickS.one | exact PickS.here | exact PickS.nil | apply PickS.there | apply PickS.far)) | exact Take.last (by repeat (first | exact PickS.last | exact PickS.one | exact PickS.here | exact PickS.nil | apply PickS.there | apply PickS.far)))), ⟨rfl, by omega⟩⟩
        ·
          refine TL.nil ?_
          refine T.seq ?_
          refine T.cond_f rfl ?_
          refine T.exit ?_
          refine T.seq ?_
          refine T.region ?_
          refine TL.cons rfl (V1.t (V1.assign' (by (conv => lhs; whnf) <;> rfl)) ?_)
          refine TL.nil ?_
          refine T.ret ?_
          exact ⟨_, [], _, .cons (.tmp (by (conv => lhs; whnf) <;> rfl)) .nil, Take.nil, rfl⟩
    ·
      refine TL.cons rfl (V1.t (V1.pick rfl (by (conv => lhs; whnf) <;> rfl)) ?_)
      refine TL.nil ?_
      refine T.cond_f rfl ?_
      refine T.skip ?_
      refine T.seq ?_
      refine T.region ?_
      refine TL.cons rfl (V1.t (V1.move' (by (conv => lhs; whnf) <;> rfl)) ?_)
      refine TL.cons rfl (V1.t (V1.move' (by (conv => lhs; whnf) <;> rfl)) ?_)
      refine TL.cons rfl (V1.t (V1.move' (by (conv => lhs; whnf) <;> rfl)) ?_)
      refine TL.cons rfl (T1.callX (X := []) has_40 rfl (Keys_any _ _ _ a2 k2 ([105, 110, 102, 111] : List UInt8) cc [] (PartR.old ha2) (by omega) (PartR.old hk2) (by omega) (by decide)) Take.nil (fun v Y hY => ?_))
      rcases hY with ⟨hbad, rfl, rfl⟩ | ⟨c, so, Ls, hc, hc8, rfl, hso, rfl⟩
      ·
        simp only [List.nil_append, List.append_nil]
        refine TL.cons rfl (V1.t (V1.move' (by (conv => lhs; whnf) <;> rfl)) ?_)
        refine TL.cons rfl (V1.t (V1.extract rfl (by rfl)) ?_)
        refine TL.cons rfl (V1.t (V1.extract rfl (by rfl)) ?_)
        refine TL.cons rfl (V1.t (V1.assign' (by (conv => lhs; whnf) <;> rfl)) ?_)
        refine TL.cons rfl (V1.t (V1.assign' (by (conv => lhs; whnf) <;> rfl)) ?_)
        refine TL.nil ?_
        refine T.seq ?_
        refine T.live (l := [(0, _), (1, _), (2, _), (7, _), (8, _)]) (.cons (by (conv => lhs; whnf) <;> rfl) (.cons (by (conv => lhs; whnf) <;> rfl) (.cons (by (conv => lhs; whnf) <;> rfl) (.cons (by (conv => lhs; whnf) <;> rfl) (.cons (by (conv => lhs; whnf) <;> rfl) .nil))))) (fun e_ => ?_)
        refine T.region ?_
        refine TL.cons rfl (V1.t (V1.move' (by (conv => lhs; whnf) <;> rfl)) ?_)
        refine TL.cons rfl (V1.t (V1.bytesToStr (l := a2) ty_22 ty_5 ty_9 rfl (ha2.src rfl) (by intro b h; cases h)) ?_)
        refine TL.cons rfl (V1.t (V1.move' (by (conv => lhs; whnf) <;> rfl)) ?_)
        refine TL.cons rfl (V1.t (V1.bytesToStr (l := k2) ty_22 ty_5 ty_9 rfl (hk2.src rfl) (by intro b h; cases h)) ?_)
        refine TL.cons rfl (V1.t (V1.move' (by (conv => lhs; whnf) <;> rfl)) ?_)
        refine TL.cons rfl (T1.callN has_41 rfl (fun w hs => refKeys_any a2 k2 ([105, 110, 102, 111] : List UInt8) cc w (by omega) (by omega) (by decide)) (fun v Y hY => ?_))
        obtain ⟨rfl, rfl⟩ : v = .tuple #[.slice none 0 0, .int .i64 1] ∧ Y = [] := by
          rcases hY with ⟨_, rfl, rfl⟩ | ⟨c2, so2, hc2, hc82, rfl, hso2⟩
          · exact ⟨rfl, rfl⟩
          · exfalso; omega
        simp only [List.nil_append, List.append_nil]
        refine TL.cons rfl (V1.t (V1.move' (by (conv => lhs; whnf) <;> rfl)) ?_)
        refine TL.cons rfl (V1.t (V1.extract rfl (by rfl)) ?_)
        refine TL.cons rfl (V1.t (V1.extract rfl (by rfl)) ?_)
        refine TL.cons rfl (V1.t (V1.assign' (by (conv => lhs; whnf) <;> rfl)) ?_)
        refine TL.cons rfl (V1.t (V1.assign' (by (conv => lhs; whnf) <;> rfl)) ?_)
        refine TL.nil ?_
        refine T.seq ?_
        refine T.seq ?_
        refine T.region ?_
        refine TL.cons rfl (V1.t (V1.move' (by (conv => lhs; whnf) <;> rfl)) ?_)
        refine TL.cons rfl (V1.t (V1.move' (by (conv => lhs; whnf) <;> rfl)) ?_)
        refine TL.cons rfl (V1.t (V1.neI rfl rfl (decide_eq_false (by omega))) ?_)
        refine TL.cons rfl (V1.t (V1.move' (by (conv => lhs; whnf) <;> rfl)) ?_)
        refine TL.cons rfl (V1.t (V1.move' (by (conv => lhs; whnf) <;> rfl)) ?_)
        refine TL.cons rfl (V1.t (V1.lenSl ty_74 rfl) ?_)
        refine TL.cons rfl (V1.t (V1.move' (by (conv => lhs; whnf) <;> rfl)) ?_)
        refine TL.cons rfl (V1.t (V1.lenSl ty_74 rfl) ?_)
        refine TL.cons rfl (V1.t (V1.neI rfl rfl (decide_eq_false (by omega))) ?_)
        refine TL.cons rfl (V1.t (V1.pick rfl (by (conv => lhs; whnf) <;> rfl)) ?_)
        refine TL.nil ?_
        refine T.cond_f rfl ?_
        refine T.skip ?_
        refine T.seq ?_
        refine T.seq ?_
        refine T.live (l := [(7, _), (9, _)]) (.cons (by (conv => lhs; whnf) <;> rfl) (.cons (by (conv => lhs; whnf) <;> rfl) .nil)) (fun e_ => ?_)
        refine T.region ?_
        refine TL.cons rfl (V1.t (V1.move' (by (conv => lhs; whnf) <;> rfl)) ?_)
        refine TL.cons rfl (V1.t (V1.lenSl ty_74 rfl) ?_)
        refine TL.cons rfl (V1.t (V1.move' (by (conv => lhs; whnf) <;> rfl)) ?_)
        refine TL.nil ?_
        refine T.block ?_
        refine T.loopL (σ := Nat) (l0 := [(7, _), (9, _), (57, _)]) (fun x => [(58, .int .i64 0)]) (fun x L => L = []) (fun x => 0) 0 (.cons rfl .nil) (.cons (by (conv => lhs; whnf) <;> rfl) (.cons (by (conv => lhs; whnf) <;> rfl) (.cons (by (conv => lhs; whnf) <;> rfl) .nil))) (by repeat (first | exact Take.nil | apply Take.one (by repeat (first | exact Pick.here | apply Pick.there | apply Pick.far)) | apply Take.seg (by repeat (first | exact PickS.last | exact PickS.one | exact PickS.here | exact PickS.nil | apply PickS.there | apply PickS.far)) | exact Take.last (by repeat (first | exact PickS.last | exact PickS.one | exact PickS.here | exact PickS.nil | apply PickS.there | apply PickS.far)))) (rfl) ?_
        rintro i e_ L rfl
        refine T.seq ?_
        refine T.region ?_
        refine TL.cons rfl (V1.t (V1.ltI rfl rfl (decide_eq_false (by omega))) ?_)
        refine TL.nil ?_
        refine T.seq ?_
        refine T.cond_f rfl ?_
        refine T.exit ?_
        refine T.seq ?_
        refine T.region ?_
        refine TL.cons rfl (V1.t (V1.assign' (by (conv => lhs; whnf) <;> rfl)) ?_)
        refine TL.nil ?_
        refine T.ret ?_
        exact ⟨_, [], _, .cons (.tmp (by (conv => lhs; whnf) <;> rfl)) .nil, Take.nil, rfl⟩
      ·
        simp only [List.nil_append, List.append_nil]
        obtain ⟨sa, sc, rfl⟩ := hso.at32 (keysB_len _ _ _ _)
        refine TL.cons rfl (V1.t (V1.move' (by (conv => lhs; whnf) <;> rfl)) ?_)
        refine TL.cons rfl (V1.t (V1.extract rfl (by rfl)) ?_)
        refine TL.cons rfl (V1.t (V1.extract rfl (by rfl)) ?_)
        refine TL.cons rfl (V1.t (V1.assign' (by (conv => lhs; whnf) <;> rfl)) ?_)
        refine TL.cons rfl (V1.t (V1.assign' (by (conv => lhs; whnf) <;> rfl)) ?_)
        refine TL.nil ?_
        refine T.seq ?_
        refine T.live (l := [(0, _), (1, _), (2, _), (7, _), (8, _)]) (.cons (by (conv => lhs; whnf) <;> rfl) (.cons (by (conv => lhs; whnf) <;> rfl) (.cons (by (conv => lhs; whnf) <;> rfl) (.cons (by (conv => lhs; whnf) <;> rfl) (.cons (by (conv => lhs; whnf) <;> rfl) .nil))))) (fun e_ => ?_)
        refine T.region ?_
        refine TL.cons rfl (V1.t (V1.move' (by (conv => lhs; whnf) <;> rfl)) ?_)
        refine TL.cons rfl (V1.t (V1.bytesToStr (l := a2) ty_22 ty_5 ty_9 rfl (ha2.src rfl) (by intro b h; cases h)) ?_)
        refine TL.cons rfl (V1.t (V1.move' (by (conv => lhs; whnf) <;> rfl)) ?_)
        refine TL.cons rfl (V1.t (V1.bytesToStr (l := k2) ty_22 ty_5 ty_9 rfl (hk2.src rfl) (by intro b h; cases h)) ?_)
        refine TL.cons rfl (V1.t (V1.move' (by (conv => lhs; whnf) <;> rfl)) ?_)
        refine TL.cons rfl (T1.callN has_41 rfl (fun w hs => refKeys_any a2 k2 ([105, 110, 102, 111] : List UInt8) cc w (by omega) (by omega) (by decide)) (fun v Y hY => ?_))
        rcases hY with ⟨hbad2, rfl, rfl⟩ | ⟨c2, so2, hc2, hc82, rfl, hso2⟩
        · exfalso; omega
        obtain rfl : c = c2 := by omega
        obtain ⟨ra, rc, rfl⟩ := hso2.at32 (keysB_len _ _ _ _)
        refine TL.cons rfl (V1.t (V1.move' (by (conv => lhs; whnf) <;> rfl)) ?_)
        refine TL.cons rfl (V1.t (V1.extract rfl (by rfl)) ?_)
        refine TL.cons rfl (V1.t (V1.extract rfl (by rfl)) ?_)
        refine TL.cons rfl (V1.t (V1.assign' (by (conv => lhs; whnf) <;> rfl)) ?_)
        refine TL.cons rfl (V1.t (V1.assign' (by (conv => lhs; whnf) <;> rfl)) ?_)
        refine TL.nil ?_
        refine T.seq ?_
        refine T.seq ?_
        refine T.region ?_
        refine TL.cons rfl (V1.t (V1.move' (by (conv => lhs; whnf) <;> rfl)) ?_)
        refine TL.cons rfl (V1.t (V1.move' (by (conv => lhs; whnf) <;> rfl)) ?_)
        refine TL.cons rfl (V1.t (V1.neI rfl rfl (decide_eq_false (by omega))) ?_)
        refine TL.cons rfl (V1.t (V1.move' (by (conv => lhs; whnf) <;> rfl)) ?_)
        refine TL.cons rfl (V1.t (V1.move' (by (conv => lhs; whnf) <;> rfl)) ?_)
        refine TL.cons rfl (V1.t (V1.lenSl ty_74 rfl) ?_)
        refine TL.cons rfl (V1.t (V1.move' (by (conv => lhs; whnf) <;> rfl)) ?_)
        refine TL.cons rfl (V1.t (V1.lenSl ty_74 rfl) ?_)
        refine TL.cons rfl (V1.t (V1.neI rfl rfl (decide_eq_false (by omega))) ?_)
        refine TL.cons rfl (V1.t (V1.pick rfl (by (conv => lhs; whnf) <;> rfl)) ?_)
        refine TL.nil ?_
        refine T.cond_f rfl ?_
        refine T.skip ?_
        refine T.seq ?_
        refine T.seq ?_
        refine T.live (l := [(7, _), (9, _)]) (.cons (by (conv => lhs; whnf) <;> rfl) (.cons (by (conv => lhs; whnf) <;> rfl) .nil)) (fun e_ => ?_)
        refine T.region ?_
        refine TL.cons rfl (V1.t (V1.move' (by (conv => lhs; whnf) <;> rfl)) ?_)
        refine TL.cons rfl (V1.t (V1.lenSl ty_74 rfl) ?_)
        refine TL.cons rfl (V1.t (V1.move' (by (conv => lhs; whnf) <;> rfl)) ?_)
        refine TL.nil ?_
        refine T.block ?_
        refine T.loopL (σ := Nat) (l0 := [(7, _), (9, _), (57, _)]) (fun x => [(58, .int .i64 (x : Nat))]) (fun x L => L = Y ++ Ls ∧ x ≤ c) (fun x => c - x) 0 (.cons rfl .nil) (.cons (by (conv => lhs; whnf) <;> rfl) (.cons (by (conv => lhs; whnf) <;> rfl) (.cons (by (conv => lhs; whnf) <;> rfl) .nil))) (by repeat (first | exact Take.nil | apply Take.one (by repeat (first | exact Pick.here | apply Pick.there | apply Pick.far)) | apply Take.seg (by repeat (first | exact PickS.last | exact PickS.one | exact PickS.here | exact PickS.nil | apply PickS.there | apply PickS.far)) | exact Take.last (by repeat (first | exact PickS.last | exact PickS.one | exact PickS.here | exact PickS.nil | apply PickS.there | apply PickS.far)))) (⟨rfl, Nat.zero_le _⟩) ?_
        rintro i e_ L ⟨rfl, hi⟩
        refine T.seq ?_
        refine T.region ?_
        refine TL.cons rfl (T1.ltI_split rfl rfl (fun h11_0 => ?_) (fun h11_0 => ?_))
        ·
          obtain ⟨ba, oa, za, rfl, rfl⟩ := hso.own32 (by omega)
          obtain ⟨bb, ob, zb, rfl, rfl⟩ := hso2.own32 (by omega)
          have hch : (((keysB a2 k2 ([105, 110, 102, 111] : List UInt8) c).drop (32 * i)).take 32).length = 32 := by rw [List.length_take, List.length_drop, keysB_len]; omega
          refine TL.nil ?_
          refine T.seq ?_
          refine T.cond_t rfl ?_
          refine T.skip ?_
          refine T.seq ?_
          refine T.block ?_
          refine T.seq ?_
          refine T.region ?_
          refine TL.cons rfl (V1.t (V1.move' (by (conv => lhs; whnf) <;> rfl)) ?_)
          refine TL.cons rfl (V1.t (V1.assign' (by (conv => lhs; whnf) <;> rfl)) ?_)
          refine TL.nil ?_
          refine T.seq ?_
          refine T.drawDet' mixed (by decide +kernel) ?_
          refine Det.cons 0 (ins := [(7, _)]) (.old (by (conv => lhs; whnf) <;> rfl) (by decide +kernel) .nil) (fun e_ => .inl ⟨rfl, V1.t (V1.move' (by (conv => lhs; whnf) <;> rfl)) ⟨rfl, rfl⟩⟩) ?_
          refine Det.cons 1 (ins := [(11, _)]) (.old (by (conv => lhs; whnf) <;> rfl) (by decide +kernel) .nil) (fun e_ => .inl ⟨rfl, V1.t (V1.move' (by (conv => lhs; whnf) <;> rfl)) ⟨rfl, rfl⟩⟩) ?_
          refine Det.cons 2 (ins := [(61, _), (62, _)]) (.new 0 1 (by decide +kernel) rfl rfl (.new 1 0 (by decide +kernel) rfl rfl .nil)) (fun e_ => .inl ⟨rfl, V1.t (V1.indexAddrS ty_74 sz_26 rfl rfl (by omega) (by omega)) ⟨rfl, rfl⟩⟩) ?_
          refine Det.cons 3 (ins := [(63, _)]) (.new 2 0 (by decide +kernel) rfl rfl .nil) (fun e_ => .inl ⟨rfl, V1.t (V1.loadN (vs := (((keysB a2 k2 ([105, 110, 102, 111] : List UInt8) c).drop (32 * i)).take 32).map byteV) one_26 sz_26 rfl (RdN.key (by repeat (first | exact Find.here | assumption | apply Find.there | apply Find.far))) (by rw [List.length_map]; exact hch)) ⟨rfl, rfl⟩⟩) ?_
          refine Det.cons 4 (ins := [(9, _)]) (.old (by (conv => lhs; whnf) <;> rfl) (by decide +kernel) .nil) (fun e_ => .inl ⟨rfl, V1.t (V1.move' (by (conv => lhs; whnf) <;> rfl)) ⟨rfl, rfl⟩⟩) ?_
          refine Det.cons 5 (ins := [(11, _)]) (.old (by (conv => lhs; whnf) <;> rfl) (by decide +kernel) .nil) (fun e_ => .inl ⟨rfl, V1.t (V1.move' (by (conv => lhs; whnf) <;> rfl)) ⟨rfl, rfl⟩⟩) ?_
          refine Det.cons 6 (ins := [(65, _), (66, _)]) (.new 4 1 (by decide +kernel) rfl rfl (.new 5 0 (by decide +kernel) rfl rfl .nil)) (fun e_ => .inl ⟨rfl, V1.t (V1.indexAddrS ty_74 sz_26 rfl rfl (by omega) (by omega)) ⟨rfl, rfl⟩⟩) ?_
          refine Det.cons 7 (ins := [(67, _)]) (.new 6 0 (by decide +kernel) rfl rfl .nil) (fun e_ => .inl ⟨rfl, V1.t (V1.loadN (vs := (((keysB a2 k2 ([105, 110, 102, 111] : List UInt8) c).drop (32 * i)).take 32).map byteV) one_26 sz_26 rfl (RdN.key (by repeat (first | exact Find.here | assumption | apply Find.there | apply Find.far))) (by rw [List.length_map]; exact hch)) ⟨rfl, rfl⟩⟩) ?_
          refine Det.cons 8 (ins := [(64, _), (68, _)]) (.new 3 4 (by decide +kernel) rfl rfl (.new 7 0 (by decide +kernel) rfl rfl .nil)) (fun e_ => .inl ⟨rfl, V1.t (V1.neBs (r := false) ty_26 ty_5 sz_5 eg_26 rfl rfl hch hch (by simp)) ⟨rfl, rfl⟩⟩) ?_
          refine Det.nil 9 (l := [(7, _), (9, _), (57, _), (58, _), (69, _)]) (.old (by (conv => lhs; whnf) <;> rfl) (by decide +kernel) (.old (by (conv => lhs; whnf) <;> rfl) (by decide +kernel) (.old (by (conv => lhs; whnf) <;> rfl) (by decide +kernel) (.old (by (conv => lhs; whnf) <;> rfl) (by decide +kernel) (.new 8 0 (by decide +kernel) rfl rfl .nil))))) (fun e_ => ?_)
          refine T.cond_f rfl ?_
          refine T.skip ?_
          refine T.region ?_
          refine TL.cons rfl (V1.t (V1.add rfl rfl (wrap_i64 _ (by omega) (by omega))) ?_)
          refine TL.cons rfl (V1.t (V1.move' (by (conv => lhs; whnf) <;> rfl)) ?_)
          refine TL.nil ?_
          exact ⟨i + 1, _, _, (by simp only; omega), (.cons rfl .nil), (.cons rfl (.cons rfl (.cons rfl .nil))), (by repeat (first | exact Take.nil | apply Take.one (by repeat (first | exact Pick.here | apply Pick.there | apply Pick.far)) | apply Take.seg (by repeat (first | exact PickS.last | exact PickS.one | exact PickS.here | exact PickS.nil | apply PickS.there | apply PickS.far)) | exact Take.last (by repeat (first | exact PickS.last | exact PickS.one | exact PickS.here | exact PickS.nil | apply PickS.there | apply PickS.far)))), ⟨rfl, by omega⟩⟩
        ·
          refine TL.nil ?_
          refine T.seq ?_
          refine T.cond_f rfl ?_
          refine T.exit ?_
          refine T.seq ?_
          refine T.region ?_
          refine TL.cons rfl (V1.t (V1.assign' (by (conv => lhs; whnf) <;> rfl)) ?_)
          refine TL.nil ?_
          refine T.ret ?_
          exact ⟨_, [], _, .cons (.tmp (by (conv => lhs; whnf) <;> rfl)) .nil, Take.nil, rfl⟩
  ·
    refine TL.cons rfl (V1.t (V1.move' (by (conv => lhs; whnf) <;> rfl)) ?_)
    refine TL.no rfl ?_
    refine TL.no rfl ?_
    refine TL.cons rfl (V1.t (V1.pick rfl (by (conv => lhs; whnf) <;> rfl)) ?_)
    refine TL.nil ?_
    refine T.cond_f rfl ?_
    refine T.skip ?_
    refine T.seq ?_
    refine T.region ?_
    refine TL.cons rfl (V1.t (V1.move' (by (conv => lhs; whnf) <;> rfl)) ?_)
    refine TL.cons rfl (V1.t (V1.move' (by (conv => lhs; whnf) <;> rfl)) ?_)
    refine TL.cons rfl (V1.t (V1.move' (by (conv => lhs; whnf) <;> rfl)) ?_)
    refine TL.cons rfl (T1.callX (X := []) has_40 rfl (Keys_any _ _ _ a2 k2 ([105, 110, 102, 111] : List UInt8) cc [] (PartR.old ha2) (by omega) (PartR.old hk2) (by omega) (by decide)) Take.nil (fun v Y hY => ?_))
    rcases hY with ⟨hbad, rfl, rfl⟩ | ⟨c, so, Ls, hc, hc8, rfl, hso, rfl⟩
    ·
      simp only [List.nil_append, List.append_nil]
      refine TL.cons rfl (V1.t (V1.move' (by (conv => lhs; whnf) <;> rfl)) ?_)
      refine TL.cons rfl (V1.t (V1.extract rfl (by rfl)) ?_)
      refine TL.cons rfl (V1.t (V1.extract rfl (by rfl)) ?_)
      refine TL.cons rfl (V1.t (V1.assign' (by (conv => lhs; whnf) <;> rfl)) ?_)
      refine TL.cons rfl (V1.t (V1.assign' (by (conv => lhs; whnf) <;> rfl)) ?_)
      refine TL.nil ?_
      refine T.seq ?_
      refine T.live (l := [(0, _), (1, _), (2, _), (7, _), (8, _)]) (.cons (by (conv => lhs; whnf) <;> rfl) (.cons (by (conv => lhs; whnf) <;> rfl) (.cons (by (conv => lhs; whnf) <;> rfl) (.cons (by (conv => lhs; whnf) <;> rfl) (.cons (by (conv => lhs; whnf) <;> rfl) .nil))))) (fun e_ => ?_)
      refine T.region ?_
      refine TL.cons rfl (V1.t (V1.move' (by (conv => lhs; whnf) <;> rfl)) ?_)
      refine TL.cons rfl (V1.t (V1.bytesToStr (l := a2) ty_22 ty_5 ty_9 rfl (ha2.src rfl) (by intro b h; cases h)) ?_)
      refine TL.cons rfl (V1.t (V1.move' (by (conv => lhs; whnf) <;> rfl)) ?_)
      refine TL.cons rfl (V1.t (V1.bytesToStr (l := k2) ty_22 ty_5 ty_9 rfl (hk2.src rfl) (by intro b h; cases h)) ?_)
      refine TL.cons rfl (V1.t (V1.move' (by (conv => lhs; whnf) <;> rfl)) ?_)
      refine TL.cons rfl (T1.callN has_41 rfl (fun w hs => refKeys_any a2 k2 ([105, 110, 102, 111] : List UInt8) cc w (by omega) (by omega) (by decide)) (fun v Y hY => ?_))
      obtain ⟨rfl, rfl⟩ : v = .tuple #[.slice none 0 0, .int .i64 1] ∧ Y = [] := by
        rcases hY with ⟨_, rfl, rfl⟩ | ⟨c2, so2, hc2, hc82, rfl, hso2⟩
        · exact ⟨rfl, rfl⟩
        · exfalso; omega
      simp only [List.nil_append, List.append_nil]
      refine TL.cons rfl (V1.t (V1.move' (by (conv => lhs; whnf) <;> rfl)) ?_)
      refine TL.cons rfl (V1.t (V1.extract rfl (by rfl)) ?_)
      refine TL.cons rfl (V1.t (V1.extract rfl (by rfl)) ?_)
      refine TL.cons rfl (V1.t (V1.assign' (by (conv => lhs; whnf) <;> rfl)) ?_)
      refine TL.cons rfl (V1.t (V1.assign' (by (conv => lhs; whnf) <;> rfl)) ?_)
      refine TL.nil ?_
      refine T.seq ?_
      refine T.seq ?_
      refine T.region ?_
      refine TL.cons rfl (V1.t (V1.move' (by (conv => lhs; whnf) <;> rfl)) ?_)
      refine TL.cons rfl (V1.t (V1.move' (by (conv => lhs; whnf) <;> rfl)) ?_)
      refine TL.cons rfl (V1.t (V1.neI rfl rfl (decide_eq_false (by omega))) ?_)
      refine TL.cons rfl (V1.t (V1.move' (by (conv => lhs; whnf) <;> rfl)) ?_)
      refine TL.cons rfl (V1.t (V1.move' (by (conv => lhs; whnf) <;> rfl)) ?_)
      refine TL.cons rfl (V1.t (V1.lenSl ty_74 rfl) ?_)
      refine TL.cons rfl (V1.t (V1.move' (by (conv => lhs; whnf) <;> rfl)) ?_)
      refine TL.cons rfl (V1.t (V1.lenSl ty_74 rfl) ?_)
      refine TL.cons rfl (V1.t (V1.neI rfl rfl (decide_eq_false (by omega))) ?_)
      refine TL.cons rfl (V1.t (V1.pick rfl (by (conv => lhs; whnf) <;> rfl)) ?_)
      refine TL.nil ?_
      refine T.cond_f rfl ?_
      refine T.skip ?_
      refine T.seq ?_
      refine T.seq ?_
      refine T.live (l := [(7, _), (9, _)]) (.cons (by (conv => lhs; whnf) <;> rfl) (.cons (by (conv => lhs; whnf) <;> rfl) .nil)) (fun e_ => ?_)
      refine T.region ?_
      refine TL.cons rfl (V1.t (V1.move' (by (conv => lhs; whnf) <;> rfl)) ?_)
      refine TL.cons rfl (V1.t (V1.lenSl ty_74 rfl) ?_)
      refine TL.cons rfl (V1.t (V1.move' (by (conv => lhs; whnf) <;> rfl)) ?_)
      refine TL.nil ?_
      refine T.block ?_
      refine T.loopL (σ := Nat) (l0 := [(7, _), (9, _), (57, _)]) (fun x => [(58, .int .i64 0)]) (fun x L => L = []) (fun x => 0) 0 (.cons rfl .nil) (.cons (by (conv => lhs; whnf) <;> rfl) (.cons (by (conv => lhs; whnf) <;> rfl) (.cons (by (conv => lhs; whnf) <;> rfl) .nil))) (by repeat (first | exact Take.nil | apply Take.one (by repeat (first | exact Pick.here | apply Pick.there | apply Pick.far)) | apply Take.seg (by repeat (first | exact PickS.last | exact PickS.one | exact PickS.here | exact PickS.nil | apply PickS.there | apply PickS.far)) | exact Take.last (by repeat (first | exact PickS.last | exact PickS.one | exact PickS.here | exact PickS.nil | apply PickS.there | apply PickS.far)))) (rfl) ?_
      rintro i e_ L rfl
      refine T.seq ?_
      refine T.region ?_
      refine TL.cons rfl (V1.t (V1.ltI rfl rfl (decide_eq_false (by omega))) ?_)
      refine TL.nil ?_
      refine T.seq ?_
      refine T.cond_f rfl ?_
      refine T.exit ?_
      refine T.seq ?_
      refine T.region ?_
      refine TL.cons rfl (V1.t (V1.assign' (by (conv => lhs; whnf) <;> rfl)) ?_)
      refine TL.nil ?_
      refine T.ret ?_
      exact ⟨_, [], _, .cons (.tmp (by (conv => lhs; whnf) <;> rfl)) .nil, Take.nil, rfl⟩
    ·
      simp only [List.nil_append, List.append_nil]
      obtain ⟨sa, sc, rfl⟩ := hso.at32 (keysB_len _ _ _ _)
      refine TL.cons rfl (V1.t (V1.move' (by (conv => lhs; whnf) <;> rfl)) ?_)
      refine TL.cons rfl (V1.t (V1.extract rfl (by rfl)) ?_)
      refine TL.cons rfl (V1.t (V1.extract rfl (by rfl)) ?_)
      refine TL.cons rfl (V1.t (V1.assign' (by (conv => lhs; whnf) <;> rfl)) ?_)
      refine TL.cons rfl (V1.t (V1.assign' (by (conv => lhs; whnf) <;> rfl)) ?_)
      refine TL.nil ?_
      refine T.seq ?_
      refine T.live (l := [(0, _), (1, _), (2, _), (7, _), (8, _)]) (.cons (by (conv => lhs; whnf) <;> rfl) (.cons (by (conv => lhs; whnf) <;> rfl) (.cons (by (conv => lhs; whnf) <;> rfl) (.cons (by (conv => lhs; whnf) <;> rfl) (.cons (by (conv => lhs; whnf) <;> rfl) .nil))))) (fun e_ => ?_)
      refine T.region ?_
      refine TL.cons rfl (V1.t (V1.move' (by (conv => lhs; whnf) <;> rfl)) ?_)
      refine TL.cons rfl (V1.t (V1.bytesToStr (l := a2) ty_22 ty_5 ty_9 rfl (ha2.src rfl) (by intro b h; cases h)) ?_)
      refine TL.cons rfl (V1.t (V1.move' (by (conv => lhs; whnf) <;> rfl)) ?_)
      refine TL.cons rfl (V1.t (V1.bytesToStr (l := k2) ty_22 ty_5 ty_9 rfl (hk2.src rfl) (by intro b h; cases h)) ?_)
      refine TL.cons rfl (V1.t (V1.move' (by (conv => lhs; whnf) <;> rfl)) ?_)
      refine TL.cons rfl (T1.callN has_41 rfl (fun w hs => refKeys_any a2 k2 ([105, 110, 102, 111] : List UInt8) cc w (by omega) (by omega) (by decide)) (fun v Y hY => ?_))
      rcases hY with ⟨hbad2, rfl, rfl⟩ | ⟨c2, so2, hc2, hc82, rfl, hso2⟩
      · exfalso; omega
      obtain rfl : c = c2 := by omega
      obtain ⟨ra, rc, rfl⟩ := hso2.at32 (keysB_len _ _ _ _)
      refine TL.cons rfl (V1.t (V1.move' (by (conv => lhs; whnf) <;> rfl)) ?_)
      refine TL.cons rfl (V1.t (V1.extract rfl (by rfl)) ?_)
      refine TL.cons rfl (V1.t (V1.extract rfl (by rfl)) ?_)
      refine TL.cons rfl (V1.t (V1.assign' (by (conv => lhs; whnf) <;> rfl)) ?_)
      refine TL.cons rfl (V1.t (V1.assign' (by (conv => lhs; whnf) <;> rfl)) ?_)
      refine TL.nil ?_
      refine T.seq ?_
      refine T.seq ?_
      refine T.region ?_
      refine TL.cons rfl (V1.t (V1.move' (by (conv => lhs; whnf) <;> rfl)) ?_)
      refine TL.cons rfl (V1.t (V1.move' (by (conv => lhs; whnf) <;> rfl)) ?_)
      refine TL.cons rfl (V1.t (V1.neI rfl rfl (decide_eq_false (by omega))) ?_)
      refine TL.cons rfl (V1.t (V1.move' (by (conv => lhs; whnf) <;> rfl)) ?_)
      refine TL.cons rfl (V1.t (V1.move' (by (conv => lhs; whnf) <;> rfl)) ?_)
      refine TL.cons rfl (V1.t (V1.lenSl ty_74 rfl) ?_)
      refine TL.cons rfl (V1.t (V1.move' (by (conv => lhs; whnf) <;> rfl)) ?_)
      refine TL.cons rfl (V1.t (V1.lenSl ty_74 rfl) ?_)
      refine TL.cons rfl (V1.t (V1.neI rfl rfl (decide_eq_false (by omega))) ?_)
      refine TL.cons rfl (V1.t (V1.pick rfl (by (conv => lhs; whnf) <;> rfl)) ?_)
      refine TL.nil ?_
      refine T.cond_f rfl ?_
      refine T.skip ?_
      refine T.seq ?_
      refine T.seq ?_
      refine T.live (l := [(7, _), (9, _)]) (.cons (by (conv => lhs; whnf) <;> rfl) (.cons (by (conv => lhs; whnf) <;> rfl) .nil)) (fun e_ => ?_)
      refine T.region ?_
      refine TL.cons rfl (V1.t (V1.move' (by (conv => lhs; whnf) <;> rfl)) ?_)
      refine TL.cons rfl (V1.t (V1.lenSl ty_74 rfl) ?_)
      refine TL.cons rfl (V1.t (V1.move' (by (conv => lhs; whnf) <;> rfl)) ?_)
      refine TL.nil ?_
      refine T.block ?_
      refine T.loopL (σ := Nat) (l0 := [(7, _), (9, _), (57, _)]) (fun x => [(58, .int .i64 (x : Nat))]) (fun x L => L = Y ++ Ls ∧ x ≤ c) (fun x => c - x) 0 (.cons rfl .nil) (.cons (by (conv => lhs; whnf) <;> rfl) (.cons (by (conv => lhs; whnf) <;> rfl) (.cons (by (conv => lhs; whnf) <;> rfl) .nil))) (by repeat (first | exact Take.nil | apply Take.one (by repeat (first | exact Pick.here | apply Pick.there | apply Pick.far)) | apply Take.seg (by repeat (first | exact PickS.last | exact PickS.one | exact PickS.here | exact PickS.nil | apply PickS.there | apply PickS.far)) | exact Take.last (by repeat (first | exact PickS.last | exact PickS.one | exact PickS.here | exact PickS.nil | apply PickS.there | apply PickS.far)))) (⟨rfl, Nat.zero_le _⟩) ?_
      rintro i e_ L ⟨rfl, hi⟩
      refine T.seq ?_
      refine T.region ?_
      refine TL.cons rfl (T1.ltI_split rfl rfl (fun h11_0 => ?_) (fun h11_0 => ?_))
      ·
        obtain ⟨ba, oa, za, rfl, rfl⟩ := hso.own32 (by omega)
        obtain ⟨bb, ob, zb, rfl, rfl⟩ := hso2.own32 (by omega)
        have hch : (((keysB a2 k2 ([105, 110, 102, 111] : List UInt8) c).drop (32 * i)).take 32).length = 32 := by rw [List.length_take, List.length_drop, keysB_len]; omega
        refine TL.nil ?_
        refine T.seq ?_
        refine T.cond_t rfl ?_
        refine T.skip ?_
        refine T.seq ?_
        refine T.block ?_
        refine T.seq ?_
        refine T.region ?_
        refine TL.cons rfl (V1.t (V1.move' (by (conv => lhs; whnf) <;> rfl)) ?_)
        refine TL.cons rfl (V1.t (V1.assign' (by (conv => lhs; whnf) <;> rfl)) ?_)
        refine TL.nil ?_
        refine T.seq ?_
        refine T.drawDet' mixed (by decide +kernel) ?_
        refine Det.cons 0 (ins := [(7, _)]) (.old (by (conv => lhs; whnf) <;> rfl) (by decide +kernel) .nil) (fun e_ => .inl ⟨rfl, V1.t (V1.move' (by (conv => lhs; whnf) <;> rfl)) ⟨rfl, rfl⟩⟩) ?_
        refine Det.cons 1 (ins := [(11, _)]) (.old (by (conv => lhs; whnf) <;> rfl) (by decide +kernel) .nil) (fun e_ => .inl ⟨rfl, V1.t (V1.move' (by (conv => lhs; whnf) <;> rfl)) ⟨rfl, rfl⟩⟩) ?_
        refine Det.cons 2 (ins := [(61, _), (62, _)]) (.new 0 1 (by decide +kernel) rfl rfl (.new 1 0 (by decide +kernel) rfl rfl .nil)) (fun e_ => .inl ⟨rfl, V1.t (V1.indexAddrS ty_74 sz_26 rfl rfl (by omega) (by omega)) ⟨rfl, rfl⟩⟩) ?_
        refine Det.cons 3 (ins := [(63, _)]) (.new 2 0 (by decide +kernel) rfl rfl .nil) (fun e_ => .inl ⟨rfl, V1.t (V1.loadN (vs := (((keysB a2 k2 ([105, 110, 102, 111] : List UInt8) c).drop (32 * i)).take 32).map byteV) one_26 sz_26 rfl (RdN.key (by repeat (first | exact Find.here | assumption | apply Find.there | apply Find.far))) (by rw [List.length_map]; exact hch)) ⟨rfl, rfl⟩⟩) ?_
        refine Det.cons 4 (ins := [(9, _)]) (.old (by (conv => lhs; whnf) <;> rfl) (by decide +kernel) .nil) (fun e_ => .inl ⟨rfl, V1.t (V1.move' (by (conv => lhs; whnf) <;> rfl)) ⟨rfl, rfl⟩⟩) ?_
        refine Det.cons 5 (ins := [(11, _)]) (.old (by (conv => lhs; whnf) <;> rfl) (by decide +kernel) .nil) (fun e_ => .inl ⟨rfl, V1.t (V1.move' (by (conv => lhs; whnf) <;> rfl)) ⟨rfl, rfl⟩⟩) ?_
        refine Det.cons 6 (ins := [(65, _), (66, _)]) (.new 4 1 (by decide +kernel) rfl rfl (.new 5 0 (by decide +kernel) rfl rfl .nil)) (fun e_ => .inl ⟨rfl, V1.t (V1.indexAddrS ty_74 sz_26 rfl rfl (by omega) (by omega)) ⟨rfl, rfl⟩⟩) ?_
        refine Det.cons 7 (ins := [(67, _)]) (.new 6 0 (by decide +kernel) rfl rfl .nil) (fun e_ => .inl ⟨rfl, V1.t (V1.loadN (vs := (((keysB a2 k2 ([105, 110, 102, 111] : List UInt8) c).drop (32 * i)).take 32).map byteV) one_26 sz_26 rfl (RdN.key (by repeat (first | exact Find.here | assumption | apply Find.there | apply Find.far))) (by rw [List.length_map]; exact hch)) ⟨rfl, rfl⟩⟩) ?_
        refine Det.cons 8 (ins := [(64, _), (68, _)]) (.new 3 4 (by decide +kernel) rfl rfl (.new 7 0 (by decide +kernel) rfl rfl .nil)) (fun e_ => .inl ⟨rfl, V1.t (V1.neBs (r := false) ty_26 ty_5 sz_5 eg_26 rfl rfl hch hch (by simp)) ⟨rfl, rfl⟩⟩) ?_
        refine Det.nil 9 (l := [(7, _), (9, _), (57, _), (58, _), (69, _)]) (.old (by (conv => lhs; whnf) <;> rfl) (by decide +kernel) (.old (by (conv => lhs; whnf) <;> rfl) (by decide +kernel) (.old (by (conv => lhs; whnf) <;> rfl) (by decide +kernel) (.old (by (conv => lhs; whnf) <;> rfl) (by decide +kernel) (.new 8 0 (by decide +kernel) rfl rfl .nil))))) (fun e_ => ?_)
        refine T.cond_f rfl ?_
        refine T.skip ?_
        refine T.region ?_
        refine TL.cons rfl (V1.t (V1.add rfl rfl (wrap_i64 _ (by omega) (by omega))) ?_)
        refine TL.cons rfl (V1.t (V1.move' (by (conv => lhs; whnf) <;> rfl)) ?_)
        refine TL.nil ?_
        exact ⟨i + 1, _, _, (by simp only; omega), (.cons rfl .nil), (.cons rfl (.cons rfl (.cons rfl .nil))), (by repeat (first | exact Take.nil | apply Take.one (by repeat (first | exact Pick.here | apply Pick.there | apply Pick.far)) | apply Take.seg (by repeat (first | exact PickS.last | exact PickS.one | exact PickS.here | exact PickS.nil | apply PickS.there | apply PickS.far)) | exact Take.last (by repeat (first | exact PickS.last | exact PickS.one | exact PickS.here | exact PickS.nil | apply PickS.there | apply PickS.far)))), ⟨rfl, by omega⟩⟩
      ·
        refine TL.nil ?_
        refine T.seq ?_
        refine T.cond_f rfl ?_
        refine T.exit ?_
        refine T.seq ?_
        refine T.region ?_
        refine TL.cons rfl (V1.t (V1.assign' (by (conv => lhs; whnf) <;> rfl)) ?_)
        refine TL.nil ?_
        refine T.ret ?_
        exact ⟨_, [], _, .cons (.tmp (by (conv => lhs; whnf) <;> rfl)) .nil, Take.nil, rfl⟩

end Go.Proofs.Ytelcmllfojfbfaa.S
