/- Sums with keys. -/
import Derived.Test.YtelcmllfojfbfaaM1
namespace Go.Proofs.Ytelcmllfojfbfaa.S
open Go.RowKit

open Sh
/-- A sum with a key that is being made: m came. -/
def MB (bm : Nat) (key m : List UInt8) (X : List Blk) : Prop := ∃ bh X', X = ⟨bm, 0, .pointer (some ⟨bh, 0, none⟩) :: (opad key).map byteV, 65⟩ :: X' ∧ HB T256 w32 bh (ipad key ++ m) X'
theorem hmac_len (key m : List UInt8) : (hmac key m).length = 32 := sha_len _ _

set_option maxRecDepth 100000 in
set_option maxHeartbeats 2000000 in
theorem MSum_any (w0 : World) (bm : Nat) (key m : List UInt8) (X : List Blk) (hb : MB bm key m X) (hl : m.length < 4611686018427387000) : FnX P 29 [.pointer (some ⟨bm, 0, none⟩)] w0 [] X (fun v Y => v = .agg ((hmac key m).map byteV).toArray ∧ Y = X) := by
  obtain ⟨bh, X', rfl, hx⟩ := hb
  refine FnX.of 16 [.cell 2 26] Go.Proofs.Try.func29 rfl rfl rfl rfl (fun G => ?_)
  rw [List.cons_append]
  refine T.seq ?_
  refine T.region ?_
  refine TL.cons rfl (T1.allocN 32 zr_26 rfl (fun b2 => ?_))
  refine TL.nil ?_
  refine T.seq ?_
  refine T.region ?_
  refine TL.cons rfl (V1.t (V1.move' (by (conv => lhs; whnf) <;> rfl)) ?_)
  refine TL.cons rfl (V1.t (V1.nilCheck rfl) ?_)
  refine TL.cons rfl (V1.t (V1.fieldAddr fl_42_0 rfl) ?_)
  refine TL.cons rfl (V1.t (V1.load1 one_40 rfl (.own (cells := .pointer (some ⟨bh, 0, none⟩) :: (opad key).map byteV) (by repeat (first | exact Find.here | assumption | apply Find.there | apply Find.far)) (by rfl))) ?_)
  refine TL.cons rfl (T1.callX (X := X') has_36 rfl (HSum256_any _ bh _ X' hx (by rw [List.length_append, ipad_len]; omega)) (by repeat (first | exact Take.nil | apply Take.one (by repeat (first | exact Pick.here | apply Pick.there | apply Pick.far)) | apply Take.seg (by repeat (first | exact PickS.last | exact PickS.one | exact PickS.here | exact PickS.nil | apply PickS.there | apply PickS.far)) | exact Take.last (by repeat (first | exact PickS.last | exact PickS.one | exact PickS.here | exact PickS.nil | apply PickS.there | apply PickS.far)))) (fun v3 Z hZ => ?_))
  obtain ⟨rfl, hzz⟩ := hZ
  rw [hzz]
  refine TL.cons rfl (T1.allocN 32 zr_26 rfl (fun b3 => ?_))
  refine TL.cons rfl (T1.storeN rfl rfl sz_26 (one_bytes _) (by repeat (first | exact Sub.one | apply Sub.there | apply Sub.far)) (by rw [List.length_map, sha_len]; rfl) (by rw [List.length_map, sha_len]) ?_)
  refine TL.nil ?_
  refine T.seq ?_
  refine T.drawK (fun L_ => True) mixed trivial ?_
  refine TK.take 0 rfl (by decide +kernel) (by decide +kernel) (by decide +kernel) rfl (fun _ _ _ h => h) (fun L_ _ => V1.move' (by (conv => lhs; whnf) <;> rfl)) ?_
  refine TK.take 1 rfl (by decide +kernel) (by decide +kernel) (by decide +kernel) rfl (fun _ _ _ h => h) (fun L_ _ => V1.nilCheck rfl) ?_
  refine TK.take 2 rfl (by decide +kernel) (by decide +kernel) (by decide +kernel) rfl (fun _ _ _ h => h) (fun L_ _ => V1.fieldAddr fl_42_1 rfl) ?_
  refine TK.take 3 rfl (by decide +kernel) (by decide +kernel) (by decide +kernel) rfl (fun _ _ _ h => h) (fun L_ _ => V1.sliceA ty_30 sz_5 rfl rfl rfl (by decide) (by decide) (by decide)) ?_
  refine TK.take 4 rfl (by decide +kernel) (by decide +kernel) (by decide +kernel) rfl (fun _ _ _ h => h) (fun L_ _ => V1.sliceA ty_26 sz_5 rfl rfl rfl (by decide) (by decide) (by decide)) ?_
  refine TK.one 5 (by decide +kernel) rfl rfl (T1.buildSl1 (os := [.tmp 12, .tmp 13]) (vs := [.slice (some ⟨bm, 0 + 1, none⟩) 64 64, .slice (some ⟨b3, 0, none⟩) 32 32]) ty_44 sz_22 zr_22 (by decide) rfl (.cons (by (conv => lhs; whnf) <;> rfl) (.cons (by (conv => lhs; whnf) <;> rfl) .nil)) rfl (ones rfl) (fun b14 => ?_))
  refine ⟨trivial, ?_⟩
  refine TK.one 6 (by decide +kernel) rfl rfl (T1.callX (X := [⟨b14, 0, [.slice (some ⟨bm, 0 + 1, none⟩) 64 64, .slice (some ⟨b3, 0, none⟩) 32 32], 2⟩, ⟨bm, 0, .pointer (some ⟨bh, 0, none⟩) :: (opad key).map byteV, 65⟩, ⟨b3, 0, (sha T256 (ipad key ++ m)).map byteV, 32⟩]) has_19 rfl (Sum256_any _ _ [opad key, (sha T256 (ipad key ++ m))] [⟨b14, 0, [.slice (some ⟨bm, 0 + 1, none⟩) 64 64, .slice (some ⟨b3, 0, none⟩) 32 32], 2⟩, ⟨bm, 0, .pointer (some ⟨bh, 0, none⟩) :: (opad key).map byteV, 65⟩, ⟨b3, 0, (sha T256 (ipad key ++ m)).map byteV, 32⟩] (PartsR.ones (svs := [.slice (some ⟨bm, 0 + 1, none⟩) 64 64, .slice (some ⟨b3, 0, none⟩) 32 32]) (size := 2) (by simp) rfl (two_parts (part_of (cells := .pointer (some ⟨bh, 0, none⟩) :: (opad key).map byteV) (size := 65) (by simp) (opad_len key) (by rw [List.drop_one, List.tail_cons, List.take_of_length_le (by rw [List.length_map, opad_len]; exact Nat.le_refl _)])) (part64 (size := 32) (by simp) (sha_len _ _)))) (two_len (by rw [opad_len]; decide) (by rw [sha_len]; decide)) (show 2 < 9223372036854775807 by decide) (by simp [opad_len, sha_len])) (by repeat (first | exact Take.nil | apply Take.one (by repeat (first | exact Pick.here | apply Pick.there | apply Pick.far)) | apply Take.seg (by repeat (first | exact PickS.last | exact PickS.one | exact PickS.here | exact PickS.nil | apply PickS.there | apply PickS.far)) | exact Take.last (by repeat (first | exact PickS.last | exact PickS.one | exact PickS.here | exact PickS.nil | apply PickS.there | apply PickS.far)))) (fun v Y hY => ?_))
  obtain ⟨rfl, rfl⟩ := hY
  rw [show ([opad key, (sha T256 (ipad key ++ m))] : List (List UInt8)).flatten = opad key ++ (sha T256 (ipad key ++ m)) from by simp]
  dsimp only [List.cons_append, List.nil_append]
  refine ⟨trivial, ?_⟩
  refine TK.one 7 (by decide +kernel) rfl rfl (T1.storeN (vs := (hmac key m).map byteV) rfl rfl sz_26 (one_bytes _) (by repeat (first | exact Sub.one | apply Sub.there | apply Sub.far)) (by rw [List.length_map, hmac_len]; rfl) (by rw [List.length_map, hmac_len]) ?_)
  refine ⟨trivial, ?_⟩
  refine TD.done (by decide +kernel) ?_
  refine T.ret ?_
  exact ⟨_, ⟨bm, 0, .pointer (some ⟨bh, 0, none⟩) :: (opad key).map byteV, 65⟩ :: (X' ++ G), _, .cons (.cellN (by (conv => lhs; whnf) <;> rfl) one_26 sz_26 (RdN.whole (cells := (hmac key m).map byteV) (by repeat (first | exact Find.here | assumption | apply Find.there | apply Find.far))) (by rw [List.length_map, hmac_len])) .nil, (by repeat (first | exact Take.nil | apply Take.one (by repeat (first | exact Pick.here | apply Pick.there | apply Pick.far)) | apply Take.seg (by repeat (first | exact PickS.last | exact PickS.one | exact PickS.here | exact PickS.nil | apply PickS.there | apply PickS.far)) | exact Take.last (by repeat (first | exact PickS.last | exact PickS.one | exact PickS.here | exact PickS.nil | apply PickS.there | apply PickS.far)))), ⟨bm, 0, .pointer (some ⟨bh, 0, none⟩) :: (opad key).map byteV, 65⟩ :: X', by rw [List.cons_append], rfl, rfl⟩

set_option maxRecDepth 100000 in
set_option maxHeartbeats 2000000 in
theorem mac_any (w0 : World) (kv v : Value) (key : List UInt8) (ps : List (List UInt8)) (Ps : List Blk) (hk : PartR w0 Ps kv key) (hkl : key.length ≤ 200000000000000) (hp : PartsR w0 Ps v ps) (hlen : ∀ p ∈ ps, p.length ≤ 200000000000000) (hpn : ps.length < 9223372036854775807) (hfl : ps.flatten.length < 4611686018427387000) : FnX P 25 [kv, v] w0 [] Ps (fun v Y => v = .agg ((hmac key ps.flatten).map byteV).toArray ∧ Y = Ps) := by
  refine FnX.of 16 [.cell 4 26] Go.Proofs.Try.func25 rfl rfl rfl rfl (fun G => ?_)
  refine T.seq ?_
  refine T.region ?_
  refine TL.cons rfl (T1.allocN 32 zr_26 rfl (fun b4 => ?_))
  refine TL.nil ?_
  refine T.seq ?_
  refine T.region ?_
  refine TL.cons rfl (V1.t (V1.move' (by (conv => lhs; whnf) <;> rfl)) ?_)
  refine TL.cons rfl (T1.callX (X := Ps) has_27 rfl (macNew_any _ _ key Ps hk hkl) (by repeat (first | exact Take.nil | apply Take.one (by repeat (first | exact Pick.here | apply Pick.there | apply Pick.far)) | apply Take.seg (by repeat (first | exact PickS.last | exact PickS.one | exact PickS.here | exact PickS.nil | apply PickS.there | apply PickS.far)) | exact Take.last (by repeat (first | exact PickS.last | exact PickS.one | exact PickS.here | exact PickS.nil | apply PickS.there | apply PickS.far)))) (fun v2 Y hY => ?_))
  obtain ⟨bm, bh, X', rfl, rfl, hx⟩ := hY
  simp only [List.cons_append, List.append_assoc]
  refine TL.cons rfl (V1.t (V1.assign' (by (conv => lhs; whnf) <;> rfl)) ?_)
  refine TL.nil ?_
  refine T.seq ?_
  refine T.region ?_
  refine TL.cons rfl (V1.t (V1.move' (by (conv => lhs; whnf) <;> rfl)) ?_)
  refine TL.cons rfl (V1.t (V1.nilCheck rfl) ?_)
  refine TL.cons rfl (V1.t (V1.fieldAddr fl_42_0 rfl) ?_)
  refine TL.cons rfl (V1.t (V1.load1 one_40 rfl (.own (cells := .pointer (some ⟨bh, 0, none⟩) :: (opad key).map byteV) (by repeat (first | exact Find.here | assumption | apply Find.there | apply Find.far)) (by rfl))) ?_)
  refine TL.cons rfl (V1.t (V1.move' (by (conv => lhs; whnf) <;> rfl)) ?_)
  refine TL.cons rfl (T1.callX (X := X' ++ Ps) has_28 rfl (Write256_any _ bh _ _ ps X' Ps hx hp hlen hpn) (by repeat (first | exact Take.nil | apply Take.one (by repeat (first | exact Pick.here | apply Pick.there | apply Pick.far)) | apply Take.seg (by repeat (first | exact PickS.last | exact PickS.one | exact PickS.here | exact PickS.nil | apply PickS.there | apply PickS.far)) | exact Take.last (by repeat (first | exact PickS.last | exact PickS.one | exact PickS.here | exact PickS.nil | apply PickS.there | apply PickS.far)))) (fun v3 Y hY => ?_))
  obtain ⟨X2, hx2, rfl⟩ := hY
  simp only [List.append_assoc]
  refine TL.nil ?_
  refine T.seq ?_
  refine T.region ?_
  refine TL.cons rfl (V1.t (V1.move' (by (conv => lhs; whnf) <;> rfl)) ?_)
  refine TL.cons rfl (T1.callX (X := ⟨bm, 0, .pointer (some ⟨bh, 0, none⟩) :: (opad key).map byteV, 65⟩ :: X2) has_29 rfl (MSum_any _ bm key ps.flatten (⟨bm, 0, .pointer (some ⟨bh, 0, none⟩) :: (opad key).map byteV, 65⟩ :: X2) ⟨bh, X2, rfl, hx2⟩ hfl) (by repeat (first | exact Take.nil | apply Take.one (by repeat (first | exact Pick.here | apply Pick.there | apply Pick.far)) | apply Take.seg (by repeat (first | exact PickS.last | exact PickS.one | exact PickS.here | exact PickS.nil | apply PickS.there | apply PickS.far)) | exact Take.last (by repeat (first | exact PickS.last | exact PickS.one | exact PickS.here | exact PickS.nil | apply PickS.there | apply PickS.far)))) (fun v3 Y hY => ?_))
  obtain ⟨rfl, hzz⟩ := hY
  rw [hzz]
  simp only [List.cons_append]
  refine TL.cons rfl (T1.storeN rfl rfl sz_26 (one_bytes _) (by repeat (first | exact Sub.one | apply Sub.there | apply Sub.far)) (by rw [List.length_map, hmac_len]; rfl) (by rw [List.length_map, hmac_len]) ?_)
  refine TL.nil ?_
  refine T.ret ?_
  exact ⟨_, Ps ++ G, _, .cons (.cellN (by (conv => lhs; whnf) <;> rfl) one_26 sz_26 (RdN.whole (by repeat (first | exact Find.here | assumption | apply Find.there | apply Find.far))) (by rw [List.length_map, hmac_len])) .nil, (by repeat (first | exact Take.nil | apply Take.one (by repeat (first | exact Pick.here | apply Pick.there | apply Pick.far)) | apply Take.seg (by repeat (first | exact PickS.last | exact PickS.one | exact PickS.here | exact PickS.nil | apply PickS.there | apply PickS.far)) | exact Take.last (by repeat (first | exact PickS.last | exact PickS.one | exact PickS.here | exact PickS.nil | apply PickS.there | apply PickS.far)))), Ps, rfl, rfl, rfl⟩

set_option maxRecDepth 100000 in
set_option maxHeartbeats 1000000 in
theorem reftext_any (p : List UInt8) (w : World) (hp : p.length = 32) : Fn P 44 [.agg (p.map byteV).toArray] w [] (fun v Y => Y = [] ∧ v = .string (bstr p)) := by
  refine Fn.of 17 [.tmp 2] Go.Proofs.Try.func44 rfl rfl rfl rfl ?_
  refine T.seq ?_
  refine T.region ?_
  refine TL.cons rfl (T1.boxN (vs := p.map byteV) 32 rfl (by rw [List.length_map]; exact hp) (fun b1 => ?_))
  refine TL.cons rfl (V1.t (V1.assign' (by (conv => lhs; whnf) <;> rfl)) ?_)
  refine TL.nil ?_
  refine T.seq ?_
  refine T.region ?_
  refine TL.cons rfl (V1.t (V1.assign' (by (conv => lhs; whnf) <;> rfl)) ?_)
  refine TL.nil ?_
  refine T.seq ?_
  refine T.seq ?_
  refine T.region ?_
  refine TL.cons rfl (V1.t (V1.assign' (by (conv => lhs; whnf) <;> rfl)) ?_)
  refine TL.nil ?_
  refine T.block ?_
  refine T.loopL (σ := Nat) (l0 := [(1, _)]) (fun x => [(4, .int .i64 (x : Nat)), (3, .string (bstr (p.take x)))]) (fun x L => L = ⟨b1, 0, p.map byteV, 32⟩ :: [] ∧ x ≤ 32) (fun x => 32 - x) 0 (.cons rfl (.cons rfl .nil)) (.cons (by (conv => lhs; whnf) <;> rfl) .nil) (by repeat (first | exact Take.nil | apply Take.one (by repeat (first | exact Pick.here | apply Pick.there | apply Pick.far)) | apply Take.seg (by repeat (first | exact PickS.last | exact PickS.one | exact PickS.here | exact PickS.nil | apply PickS.there | apply PickS.far)) | exact Take.last (by repeat (first | exact PickS.last | exact PickS.one | exact PickS.here | exact PickS.nil | apply PickS.there | apply PickS.far)))) (⟨rfl, Nat.zero_le _⟩) ?_
  rintro i e_ L ⟨rfl, hi⟩
  refine T.seq ?_
  refine T.seq ?_
  refine T.region ?_
  refine TL.cons rfl (V1.t (V1.move' (by (conv => lhs; whnf) <;> rfl)) ?_)
  refine TL.cons rfl (T1.ltI_split rfl rfl (fun h3_1 => ?_) (fun h3_1 => ?_))
  ·
    obtain ⟨x, hx⟩ : ∃ x, p[i]? = some x := ⟨_, List.getElem?_eq_getElem (by omega)⟩
    refine TL.nil ?_
    refine T.cond_t rfl ?_
    refine T.skip ?_
    refine T.seq ?_
    refine T.block ?_
    refine T.region ?_
    refine TL.cons rfl (V1.t (V1.move' (by (conv => lhs; whnf) <;> rfl)) ?_)
    refine TL.cons rfl (V1.t (V1.move' (by (conv => lhs; whnf) <;> rfl)) ?_)
    refine TL.cons rfl (V1.t (V1.indexAddrA ty_26 sz_5 rfl rfl (by omega) (by omega)) ?_)
    refine TL.cons rfl (V1.t (V1.load1 one_5 rfl (show Rd _ _ ⟨b1, 0 + i * 1, none⟩ (byteV x) from by rw [Nat.mul_one]; exact Rd.at (by repeat (first | exact Find.here | assumption | apply Find.there | apply Find.far)) (by rw [List.getElem?_map, hx]; rfl))) ?_)
    refine TL.cons rfl (T1.buildSl1 (os := [.tmp 12]) ty_22 sz_5 zr_5 (by decide) rfl (.cons (by (conv => lhs; whnf) <;> rfl) .nil) rfl (ones rfl) (fun b13 => ?_))
    refine TL.cons rfl (V1.t (V1.bytesToStr (l := [x]) ty_22 ty_5 ty_9 rfl (.sl (n := 1) (RdN.at0 (cells := [byteV x]) (by repeat (first | exact Find.here | assumption | apply Find.there | apply Find.far))) rfl) (by intro b h; cases h)) ?_)
    refine TL.cons rfl (V1.t (V1.addB rfl rfl (by rw [List.length_take, List.length_singleton]; omega)) ?_)
    refine TL.cons rfl (V1.t (V1.assign' (by (conv => lhs; whnf) <;> rfl)) ?_)
    refine TL.nil ?_
    refine T.region ?_
    refine TL.cons rfl (V1.t (V1.move' (by (conv => lhs; whnf) <;> rfl)) ?_)
    refine TL.cons rfl (V1.t (V1.add rfl rfl (wrap_i64 _ (by omega) (by omega))) ?_)
    refine TL.cons rfl (V1.t (V1.assign' (by (conv => lhs; whnf) <;> rfl)) ?_)
    refine TL.nil ?_
    exact ⟨i + 1, _, _, (by simp only; omega), (.cons rfl (.cons (congrArg (fun q => Value.string (bstr q)) (by rw [List.take_add_one, hx]; rfl)) .nil)), (.cons rfl .nil), (by repeat (first | exact Take.nil | apply Take.one (by repeat (first | exact Pick.here | apply Pick.there | apply Pick.far)) | apply Take.seg (by repeat (first | exact PickS.last | exact PickS.one | exact PickS.here | exact PickS.nil | apply PickS.there | apply PickS.far)) | exact Take.last (by repeat (first | exact PickS.last | exact PickS.one | exact PickS.here | exact PickS.nil | apply PickS.there | apply PickS.far)))), ⟨rfl, by omega⟩⟩
  ·
    obtain rfl : i = 32 := by omega
    rw [List.take_of_length_le (by omega)]
    refine TL.nil ?_
    refine T.cond_f rfl ?_
    refine T.exit ?_
    refine T.seq ?_
    refine T.region ?_
    refine TL.cons rfl (V1.t (V1.move' (by (conv => lhs; whnf) <;> rfl)) ?_)
    refine TL.cons rfl (V1.t (V1.assign' (by (conv => lhs; whnf) <;> rfl)) ?_)
    refine TL.nil ?_
    refine T.ret ?_
    exact ⟨_, [], _, .cons (.tmp (by (conv => lhs; whnf) <;> rfl)) .nil, Take.nil, rfl, rfl⟩

theorem kpad_getD {key : List UInt8} {i : Nat} (hi : i < 64) : (kpad key).getD i 0 = (keyOf key).getD i 0 := by
  unfold kpad
  rcases Nat.lt_or_ge i (keyOf key).length with h | h
  · rw [List.getD_eq_getElem?_getD, List.getElem?_append_left h, ← List.getD_eq_getElem?_getD]
  · rw [List.getD_eq_getElem?_getD, List.getElem?_append_right h, List.getElem?_replicate, if_pos (by omega), List.getD_eq_getElem?_getD, List.getElem?_eq_none h]; rfl
theorem ipad_take {key : List UInt8} {i : Nat} (h : i < 64) : (ipad key).take i ++ [(keyOf key).getD i 0 ^^^ 54] = (ipad key).take (i + 1) := by
  rw [List.take_add_one, ipad_get h, kpad_getD h]; rfl
theorem opad_take {key : List UInt8} {i : Nat} (h : i < 64) : (opad key).take i ++ [(keyOf key).getD i 0 ^^^ 92] = (opad key).take (i + 1) := by
  rw [List.take_add_one, opad_get h, kpad_getD h]; rfl

theorem bstr_at {l : List UInt8} {i : Nat} (h : i < l.length) : (bstr l)[((i : Nat) : Int).toNat]? = some (l.getD i 0) := by
  rw [Int.toNat_natCast, List.getD_eq_getElem?_getD, List.getElem?_eq_getElem h]
  show (if h : i < (bstr l).size then some (bstr l)[i] else none) = _
  rw [dif_pos (by rw [bstr_size]; exact h)]; rfl

set_option maxRecDepth 100000 in
set_option maxHeartbeats 2000000 in
theorem refmac_any (key m : List UInt8) (w : World) (hk : key.length ≤ 200000000000000) (hm : m.length ≤ 199999999999000) : Fn P 26 [.string (bstr key), .string (bstr m)] w [] (fun v Y => Y = [] ∧ v = .agg ((hmac key m).map byteV).toArray) := by
  refine Fn.of 46 [.cell 4 26] Go.Proofs.Try.func26 rfl rfl rfl rfl ?_
  refine T.seq ?_
  refine T.region ?_
  refine TL.cons rfl (T1.allocN 32 zr_26 rfl (fun b4 => ?_))
  refine TL.nil ?_
  refine T.seq ?_
  refine T.seq ?_
  refine T.region ?_
  refine TL.cons rfl (V1.t (V1.move' (by (conv => lhs; whnf) <;> rfl)) ?_)
  refine TL.cons rfl (V1.t (V1.lenS ty_9 rfl) ?_)
  refine TL.cons rfl (T1.gtI_split rfl rfl (fun h1_2 => ?_) (fun h1_2 => ?_))
  ·
    have h1n : 64 < key.length := by rw [bstr_size] at h1_2; omega
    have hko : keyOf key = sha T256 key := by unfold keyOf; rw [if_pos h1n]
    refine TL.nil ?_
    refine T.cond_t rfl ?_
    refine T.region ?_
    refine TL.cons rfl (V1.t (V1.move' (by (conv => lhs; whnf) <;> rfl)) ?_)
    refine TL.cons rfl (T1.call0 has_20 rfl (fun w hs => refSum256_any (key) w (by omega)) (fun v hv => ?_))
    subst hv
    refine TL.cons rfl (T1.call0 has_44 rfl (fun w hs => reftext_any (sha T256 (key)) w (sha_len _ _)) (fun v hv => ?_))
    subst hv
    refine TL.cons rfl (V1.t (V1.assign' (by (conv => lhs; whnf) <;> rfl)) ?_)
    refine TL.nil ?_
    refine T.seq ?_
    refine T.region ?_
    refine TL.cons rfl (V1.t (V1.assign' (by (conv => lhs; whnf) <;> rfl)) ?_)
    refine TL.cons rfl (V1.t (V1.assign' (by (conv => lhs; whnf) <;> rfl)) ?_)
    refine TL.nil ?_
    refine T.seq ?_
    refine T.seq ?_
    refine T.region ?_
    refine TL.cons rfl (V1.t (V1.assign' (by (conv => lhs; whnf) <;> rfl)) ?_)
    refine TL.nil ?_
    refine T.block ?_
    refine T.loopL (σ := Nat) (l0 := [(0, _), (1, _), (4, _)]) (fun x => [(7, .int .i64 (x : Nat)), (5, .string (bstr ((ipad key).take x))), (6, .string (bstr ((opad key).take x)))]) (fun x L => L = ⟨b4, 0, List.replicate 32 (.int .u8 0), 32⟩ :: [] ∧ x ≤ 64) (fun x => 64 - x) 0 (.cons rfl (.cons rfl (.cons rfl .nil))) (.cons (by (conv => lhs; whnf) <;> rfl) (.cons (by (conv => lhs; whnf) <;> rfl) (.cons (by (conv => lhs; whnf) <;> rfl) .nil))) (by repeat (first | exact Take.nil | apply Take.one (by repeat (first | exact Pick.here | apply Pick.there | apply Pick.far)) | apply Take.seg (by repeat (first | exact PickS.last | exact PickS.one | exact PickS.here | exact PickS.nil | apply PickS.there | apply PickS.far)) | exact Take.last (by repeat (first | exact PickS.last | exact PickS.one | exact PickS.here | exact PickS.nil | apply PickS.there | apply PickS.far)))) (⟨rfl, Nat.zero_le _⟩) ?_
    rintro i e_ L ⟨rfl, hi⟩
    refine T.seq ?_
    refine T.seq ?_
    refine T.region ?_
    refine TL.cons rfl (V1.t (V1.move' (by (conv => lhs; whnf) <;> rfl)) ?_)
    refine TL.cons rfl (T1.ltI_split rfl rfl (fun h5_1 => ?_) (fun h5_1 => ?_))
    ·
      refine TL.nil ?_
      refine T.cond_t rfl ?_
      refine T.skip ?_
      refine T.seq ?_
      refine T.block ?_
      refine T.seq ?_
      refine T.region ?_
      refine TL.cons rfl (V1.t (V1.assign' (by (conv => lhs; whnf) <;> rfl)) ?_)
      refine TL.nil ?_
      refine T.seq ?_
      refine T.seq ?_
      refine T.region ?_
      refine TL.cons rfl (V1.t (V1.move' (by (conv => lhs; whnf) <;> rfl)) ?_)
      refine TL.cons rfl (V1.t (V1.move' (v := .string (bstr (keyOf key))) (by rw [hko]; exact rfl)) ?_)
      refine TL.cons rfl (V1.t (V1.lenS ty_9 rfl) ?_)
      refine TL.cons rfl (T1.ltI_split rfl rfl (fun h8_3 => ?_) (fun h8_3 => ?_))
      ·
        rw [bstr_size] at h8_3
        refine TL.nil ?_
        refine T.cond_t rfl ?_
        refine T.region ?_
        refine TL.cons rfl (V1.t (V1.move' (v := .string (bstr (keyOf key))) (by rw [hko]; exact rfl)) ?_)
        refine TL.cons rfl (V1.t (V1.move' (by (conv => lhs; whnf) <;> rfl)) ?_)
        refine TL.cons rfl (V1.t (V1.indexStr (c := (keyOf key).getD i 0) ty_9 rfl rfl (by omega) (bstr_at (by omega))) ?_)
        refine TL.cons rfl (V1.t (V1.assign' (by (conv => lhs; whnf) <;> rfl)) ?_)
        refine TL.nil ?_
        refine T.seq ?_
        refine T.region ?_
        refine TL.cons rfl (V1.t (V1.move' (by (conv => lhs; whnf) <;> rfl)) ?_)
        refine TL.cons rfl (V1.t (V1.move' (v := byteV ((keyOf key).getD i 0)) rfl) ?_)
        refine TL.cons rfl (V1.t (V1.xorW (b := 54#8) u8U rfl rfl) ?_)
        refine TL.cons rfl (T1.buildSl1 (os := [.tmp 28]) (vs := [byteV ((keyOf key).getD i 0 ^^^ 54)]) ty_22 sz_5 zr_5 (by decide) rfl (.cons rfl .nil) rfl (ones rfl) (fun b29 => ?_))
        refine TL.cons rfl (V1.t (V1.bytesToStr (l := [(keyOf key).getD i 0 ^^^ 54]) ty_22 ty_5 ty_9 rfl (.sl (n := 1) (RdN.at0 (cells := [byteV ((keyOf key).getD i 0 ^^^ 54)]) (by repeat (first | exact Find.here | assumption | apply Find.there | apply Find.far))) rfl) (by intro b h; cases h)) ?_)
        refine TL.cons rfl (V1.t (V1.addB rfl rfl (by rw [List.length_take, List.length_singleton]; omega)) ?_)
        refine TL.cons rfl (V1.t (V1.assign' (by (conv => lhs; whnf) <;> rfl)) ?_)
        refine TL.nil ?_
        refine T.live (l := [(0, _), (1, _), (4, _), (5, _), (6, _), (7, _), (8, _)]) (.cons (by (conv => lhs; whnf) <;> rfl) (.cons (by (conv => lhs; whnf) <;> rfl) (.cons (by (conv => lhs; whnf) <;> rfl) (.cons (by (conv => lhs; whnf) <;> rfl) (.cons (by (conv => lhs; whnf) <;> rfl) (.cons (by (conv => lhs; whnf) <;> rfl) (.cons (by (conv => lhs; whnf) <;> rfl) .nil))))))) (fun e_ => ?_)
        refine T.region ?_
        refine TL.cons rfl (V1.t (V1.move' (by (conv => lhs; whnf) <;> rfl)) ?_)
        refine TL.cons rfl (V1.t (V1.move' (v := byteV ((keyOf key).getD i 0)) rfl) ?_)
        refine TL.cons rfl (V1.t (V1.xorW (b := 92#8) u8U rfl rfl) ?_)
        refine TL.cons rfl (T1.buildSl1 (os := [.tmp 34]) (vs := [byteV ((keyOf key).getD i 0 ^^^ 92)]) ty_22 sz_5 zr_5 (by decide) rfl (.cons rfl .nil) rfl (ones rfl) (fun b35 => ?_))
        refine TL.cons rfl (V1.t (V1.bytesToStr (l := [(keyOf key).getD i 0 ^^^ 92]) ty_22 ty_5 ty_9 rfl (.sl (n := 1) (RdN.at0 (cells := [byteV ((keyOf key).getD i 0 ^^^ 92)]) (by repeat (first | exact Find.here | assumption | apply Find.there | apply Find.far))) rfl) (by intro b h; cases h)) ?_)
        refine TL.cons rfl (V1.t (V1.addB rfl rfl (by rw [List.length_take, List.length_singleton]; omega)) ?_)
        refine TL.cons rfl (V1.t (V1.assign' (by (conv => lhs; whnf) <;> rfl)) ?_)
        refine TL.nil ?_
        refine T.region ?_
        refine TL.cons rfl (V1.t (V1.move' (by (conv => lhs; whnf) <;> rfl)) ?_)
        refine TL.cons rfl (V1.t (V1.add rfl rfl (wrap_i64 _ (by omega) (by omega))) ?_)
        refine TL.cons rfl (V1.t (V1.assign' (by (conv => lhs; whnf) <;> rfl)) ?_)
        refine TL.nil ?_
        exact ⟨i + 1, _, _, (by simp only; omega), (.cons rfl (.cons (congrArg (fun q => Value.string (bstr q)) (ipad_take (by omega))) (.cons (congrArg (fun q => Value.string (bstr q)) (opad_take (by omega))) .nil))), (.cons rfl (.cons rfl (.cons rfl .nil))), (by repeat (first | exact Take.nil | apply Take.one (by repeat (first | exact Pick.here | apply Pick.there | apply Pick.far)) | apply Take.seg (by repeat (first | exact PickS.last | exact PickS.one | exact PickS.here | exact PickS.nil | apply PickS.there | apply PickS.far)) | exact Take.last (by repeat (first | exact PickS.last | exact PickS.one | exact PickS.here | exact PickS.nil | apply PickS.there | apply PickS.far)))), ⟨rfl, by omega⟩⟩
      ·
        rw [bstr_size] at h8_3
        refine TL.nil ?_
        refine T.cond_f rfl ?_
        refine T.skip ?_
        refine T.seq ?_
        refine T.region ?_
        refine TL.cons rfl (V1.t (V1.move' (by (conv => lhs; whnf) <;> rfl)) ?_)
        refine TL.cons rfl (V1.t (V1.move' (v := byteV ((keyOf key).getD i 0)) (show Value.int .u8 0 = _ from by rw [List.getD_eq_getElem?_getD, List.getElem?_eq_none (by omega)]; rfl)) ?_)
        refine TL.cons rfl (V1.t (V1.xorW (b := 54#8) u8U rfl rfl) ?_)
        refine TL.cons rfl (T1.buildSl1 (os := [.tmp 28]) (vs := [byteV ((keyOf key).getD i 0 ^^^ 54)]) ty_22 sz_5 zr_5 (by decide) rfl (.cons rfl .nil) rfl (ones rfl) (fun b29 => ?_))
        refine TL.cons rfl (V1.t (V1.bytesToStr (l := [(keyOf key).getD i 0 ^^^ 54]) ty_22 ty_5 ty_9 rfl (.sl (n := 1) (RdN.at0 (cells := [byteV ((keyOf key).getD i 0 ^^^ 54)]) (by repeat (first | exact Find.here | assumption | apply Find.there | apply Find.far))) rfl) (by intro b h; cases h)) ?_)
        refine TL.cons rfl (V1.t (V1.addB rfl rfl (by rw [List.length_take, List.length_singleton]; omega)) ?_)
        refine TL.cons rfl (V1.t (V1.assign' (by (conv => lhs; whnf) <;> rfl)) ?_)
        refine TL.nil ?_
        refine T.region ?_
        refine TL.cons rfl (V1.t (V1.move' (by (conv => lhs; whnf) <;> rfl)) ?_)
        refine TL.cons rfl (V1.t (V1.move' (v := byteV ((keyOf key).getD i 0)) (show Value.int .u8 0 = _ from by rw [List.getD_eq_getElem?_getD, List.getElem?_eq_none (by omega)]; rfl)) ?_)
        refine TL.cons rfl (V1.t (V1.xorW (b := 92#8) u8U rfl rfl) ?_)
        refine TL.cons rfl (T1.buildSl1 (os := [.tmp 34]) (vs := [byteV ((keyOf key).getD i 0 ^^^ 92)]) ty_22 sz_5 zr_5 (by decide) rfl (.cons rfl .nil) rfl (ones rfl) (fun b35 => ?_))
        refine TL.cons rfl (V1.t (V1.bytesToStr (l := [(keyOf key).getD i 0 ^^^ 92]) ty_22 ty_5 ty_9 rfl (.sl (n := 1) (RdN.at0 (cells := [byteV ((keyOf key).getD i 0 ^^^ 92)]) (by repeat (first | exact Find.here | assumption | apply Find.there | apply Find.far))) rfl) (by intro b h; cases h)) ?_)
        refine TL.cons rfl (V1.t (V1.addB rfl rfl (by rw [List.length_take, List.length_singleton]; omega)) ?_)
        refine TL.cons rfl (V1.t (V1.assign' (by (conv => lhs; whnf) <;> rfl)) ?_)
        refine TL.nil ?_
        refine T.live (l := [(0, _), (1, _), (4, _), (5, _), (6, _), (7, _)]) (.cons (by (conv => lhs; whnf) <;> rfl) (.cons (by (conv => lhs; whnf) <;> rfl) (.cons (by (conv => lhs; whnf) <;> rfl) (.cons (by (conv => lhs; whnf) <;> rfl) (.cons (by (conv => lhs; whnf) <;> rfl) (.cons (by (conv => lhs; whnf) <;> rfl) .nil)))))) (fun e_ => ?_)
        refine T.region ?_
        refine TL.cons rfl (V1.t (V1.move' (by (conv => lhs; whnf) <;> rfl)) ?_)
        refine TL.cons rfl (V1.t (V1.add rfl rfl (wrap_i64 _ (by omega) (by omega))) ?_)
        refine TL.cons rfl (V1.t (V1.assign' (by (conv => lhs; whnf) <;> rfl)) ?_)
        refine TL.nil ?_
        exact ⟨i + 1, _, _, (by simp only; omega), (.cons rfl (.cons (congrArg (fun q => Value.string (bstr q)) (ipad_take (by omega))) (.cons (congrArg (fun q => Value.string (bstr q)) (opad_take (by omega))) .nil))), (.cons rfl (.cons rfl (.cons rfl .nil))), (by repeat (first | exact Take.nil | apply Take.one (by repeat (first | exact Pick.here | apply Pick.there | apply Pick.far)) | apply Take.seg (by repeat (first | exact PickS.last | exact PickS.one | exact PickS.here | exact PickS.nil | apply PickS.there | apply PickS.far)) | exact Take.last (by repeat (first | exact PickS.last | exact PickS.one | exact PickS.here | exact PickS.nil | apply PickS.there | apply PickS.far)))), ⟨rfl, by omega⟩⟩
    ·
      obtain rfl : i = 64 := by omega
      rw [List.take_of_length_le (by rw [ipad_len]; exact Nat.le_refl _), List.take_of_length_le (by rw [opad_len]; exact Nat.le_refl _)]
      refine TL.nil ?_
      refine T.cond_f rfl ?_
      refine T.exit ?_
      refine T.seq ?_
      refine T.region ?_
      refine TL.cons rfl (V1.t (V1.move' (by (conv => lhs; whnf) <;> rfl)) ?_)
      refine TL.cons rfl (V1.t (V1.move' (by (conv => lhs; whnf) <;> rfl)) ?_)
      refine TL.cons rfl (V1.t (V1.move' (by (conv => lhs; whnf) <;> rfl)) ?_)
      refine TL.cons rfl (V1.t (V1.addB rfl rfl (by rw [ipad_len]; omega)) ?_)
      refine TL.cons rfl (T1.call0 has_20 rfl (fun w hs => refSum256_any (ipad key ++ m) w (by rw [List.length_append, ipad_len]; omega)) (fun v hv => ?_))
      subst hv
      refine TL.cons rfl (T1.call0 has_44 rfl (fun w hs => reftext_any (sha T256 (ipad key ++ m)) w (sha_len _ _)) (fun v hv => ?_))
      subst hv
      refine TL.cons rfl (V1.t (V1.addB rfl rfl (by rw [opad_len, sha_len]; decide)) ?_)
      refine TL.cons rfl (T1.call0 has_20 rfl (fun w hs => refSum256_any (opad key ++ sha T256 (ipad key ++ m)) w (by rw [List.length_append, opad_len, sha_len]; decide)) (fun v hv => ?_))
      subst hv
      refine TL.cons rfl (T1.storeN (vs := (hmac key m).map byteV) rfl rfl sz_26 (one_bytes _) (by repeat (first | exact Sub.one | apply Sub.there | apply Sub.far)) (by rw [List.length_map, hmac_len]; rfl) (by rw [List.length_map, hmac_len]) ?_)
      refine TL.nil ?_
      refine T.ret ?_
      exact ⟨_, [], _, .cons (.cellN (by (conv => lhs; whnf) <;> rfl) one_26 sz_26 (RdN.whole (cells := (hmac key m).map byteV) (by repeat (first | exact Find.here | assumption | apply Find.there | apply Find.far))) (by rw [List.length_map, hmac_len])) .nil, Take.nil, rfl, rfl⟩
  ·
    have h1n : ¬ 64 < key.length := by rw [bstr_size] at h1_2; omega
    have hko : keyOf key = key := by unfold keyOf; rw [if_neg h1n]
    refine TL.nil ?_
    refine T.cond_f rfl ?_
    refine T.skip ?_
    refine T.seq ?_
    refine T.region ?_
    refine TL.cons rfl (V1.t (V1.assign' (by (conv => lhs; whnf) <;> rfl)) ?_)
    refine TL.cons rfl (V1.t (V1.assign' (by (conv => lhs; whnf) <;> rfl)) ?_)
    refine TL.nil ?_
    refine T.seq ?_
    refine T.seq ?_
    refine T.region ?_
    refine TL.cons rfl (V1.t (V1.assign' (by (conv => lhs; whnf) <;> rfl)) ?_)
    refine TL.nil ?_
    refine T.block ?_
    refine T.loopL (σ := Nat) (l0 := [(0, _), (1, _), (4, _)]) (fun x => [(7, .int .i64 (x : Nat)), (5, .string (bstr ((ipad key).take x))), (6, .string (bstr ((opad key).take x)))]) (fun x L => L = ⟨b4, 0, List.replicate 32 (.int .u8 0), 32⟩ :: [] ∧ x ≤ 64) (fun x => 64 - x) 0 (.cons rfl (.cons rfl (.cons rfl .nil))) (.cons (by (conv => lhs; whnf) <;> rfl) (.cons (by (conv => lhs; whnf) <;> rfl) (.cons (by (conv => lhs; whnf) <;> rfl) .nil))) (by repeat (first | exact Take.nil | apply Take.one (by repeat (first | exact Pick.here | apply Pick.there | apply Pick.far)) | apply Take.seg (by repeat (first | exact PickS.last | exact PickS.one | exact PickS.here | exact PickS.nil | apply PickS.there | apply PickS.far)) | exact Take.last (by repeat (first | exact PickS.last | exact PickS.one | exact PickS.here | exact PickS.nil | apply PickS.there | apply PickS.far)))) (⟨rfl, Nat.zero_le _⟩) ?_
    rintro i e_ L ⟨rfl, hi⟩
    refine T.seq ?_
    refine T.seq ?_
    refine T.region ?_
    refine TL.cons rfl (V1.t (V1.move' (by (conv => lhs; whnf) <;> rfl)) ?_)
    refine TL.cons rfl (T1.ltI_split rfl rfl (fun h5_1 => ?_) (fun h5_1 => ?_))
    ·
      refine TL.nil ?_
      refine T.cond_t rfl ?_
      refine T.skip ?_
      refine T.seq ?_
      refine T.block ?_
      refine T.seq ?_
      refine T.region ?_
      refine TL.cons rfl (V1.t (V1.assign' (by (conv => lhs; whnf) <;> rfl)) ?_)
      refine TL.nil ?_
      refine T.seq ?_
      refine T.seq ?_
      refine T.region ?_
      refine TL.cons rfl (V1.t (V1.move' (by (conv => lhs; whnf) <;> rfl)) ?_)
      refine TL.cons rfl (V1.t (V1.move' (v := .string (bstr (keyOf key))) (by rw [hko]; exact rfl)) ?_)
      refine TL.cons rfl (V1.t (V1.lenS ty_9 rfl) ?_)
      refine TL.cons rfl (T1.ltI_split rfl rfl (fun h8_3 => ?_) (fun h8_3 => ?_))
      ·
        rw [bstr_size] at h8_3
        refine TL.nil ?_
        refine T.cond_t rfl ?_
        refine T.region ?_
        refine TL.cons rfl (V1.t (V1.move' (v := .string (bstr (keyOf key))) (by rw [hko]; exact rfl)) ?_)
        refine TL.cons rfl (V1.t (V1.move' (by (conv => lhs; whnf) <;> rfl)) ?_)
        refine TL.cons rfl (V1.t (V1.indexStr (c := (keyOf key).getD i 0) ty_9 rfl rfl (by omega) (bstr_at (by omega))) ?_)
        refine TL.cons rfl (V1.t (V1.assign' (by (conv => lhs; whnf) <;> rfl)) ?_)
        refine TL.nil ?_
        refine T.seq ?_
        refine T.region ?_
        refine TL.cons rfl (V1.t (V1.move' (by (conv => lhs; whnf) <;> rfl)) ?_)
        refine TL.cons rfl (V1.t (V1.move' (v := byteV ((keyOf key).getD i 0)) rfl) ?_)
        refine TL.cons rfl (V1.t (V1.xorW (b := 54#8) u8U rfl rfl) ?_)
        refine TL.cons rfl (T1.buildSl1 (os := [.tmp 28]) (vs := [byteV ((keyOf key).getD i 0 ^^^ 54)]) ty_22 sz_5 zr_5 (by decide) rfl (.cons rfl .nil) rfl (ones rfl) (fun b29 => ?_))
        refine TL.cons rfl (V1.t (V1.bytesToStr (l := [(keyOf key).getD i 0 ^^^ 54]) ty_22 ty_5 ty_9 rfl (.sl (n := 1) (RdN.at0 (cells := [byteV ((keyOf key).getD i 0 ^^^ 54)]) (by repeat (first | exact Find.here | assumption | apply Find.there | apply Find.far))) rfl) (by intro b h; cases h)) ?_)
        refine TL.cons rfl (V1.t (V1.addB rfl rfl (by rw [List.length_take, List.length_singleton]; omega)) ?_)
        refine TL.cons rfl (V1.t (V1.assign' (by (conv => lhs; whnf) <;> rfl)) ?_)
        refine TL.nil ?_
        refine T.live (l := [(0, _), (1, _), (4, _), (5, _), (6, _), (7, _), (8, _)]) (.cons (by (conv => lhs; whnf) <;> rfl) (.cons (by (conv => lhs; whnf) <;> rfl) (.cons (by (conv => lhs; whnf) <;> rfl) (.cons (by (conv => lhs; whnf) <;> rfl) (.cons (by (conv => lhs; whnf) <;> rfl) (.cons (by (conv => lhs; whnf) <;> rfl) (.cons (by (conv => lhs; whnf) <;> rfl) .nil))))))) (fun e_ => ?_)
        refine T.region ?_
        refine TL.cons rfl (V1.t (V1.move' (by (conv => lhs; whnf) <;> rfl)) ?_)
        refine TL.cons rfl (V1.t (V1.move' (v := byteV ((keyOf key).getD i 0)) rfl) ?_)
        refine TL.cons rfl (V1.t (V1.xorW (b := 92#8) u8U rfl rfl) ?_)
        refine TL.cons rfl (T1.buildSl1 (os := [.tmp 34]) (vs := [byteV ((keyOf key).getD i 0 ^^^ 92)]) ty_22 sz_5 zr_5 (by decide) rfl (.cons rfl .nil) rfl (ones rfl) (fun b35 => ?_))
        refine TL.cons rfl (V1.t (V1.bytesToStr (l := [(keyOf key).getD i 0 ^^^ 92]) ty_22 ty_5 ty_9 rfl (.sl (n := 1) (RdN.at0 (cells := [byteV ((keyOf key).getD i 0 ^^^ 92)]) (by repeat (first | exact Find.here | assumption | apply Find.there | apply Find.far))) rfl) (by intro b h; cases h)) ?_)
        refine TL.cons rfl (V1.t (V1.addB rfl rfl (by rw [List.length_take, List.length_singleton]; omega)) ?_)
        refine TL.cons rfl (V1.t (V1.assign' (by (conv => lhs; whnf) <;> rfl)) ?_)
        refine TL.nil ?_
        refine T.region ?_
        refine TL.cons rfl (V1.t (V1.move' (by (conv => lhs; whnf) <;> rfl)) ?_)
        refine TL.cons rfl (V1.t (V1.add rfl rfl (wrap_i64 _ (by omega) (by omega))) ?_)
        refine TL.cons rfl (V1.t (V1.assign' (by (conv => lhs; whnf) <;> rfl)) ?_)
        refine TL.nil ?_
        exact ⟨i + 1, _, _, (by simp only; omega), (.cons rfl (.cons (congrArg (fun q => Value.string (bstr q)) (ipad_take (by omega))) (.cons (congrArg (fun q => Value.string (bstr q)) (opad_take (by omega))) .nil))), (.cons rfl (.cons rfl (.cons rfl .nil))), (by repeat (first | exact Take.nil | apply Take.one (by repeat (first | exact Pick.here | apply Pick.there | apply Pick.far)) | apply Take.seg (by repeat (first | exact PickS.last | exact PickS.one | exact PickS.here | exact PickS.nil | apply PickS.there | apply PickS.far)) | exact Take.last (by repeat (first | exact PickS.last | exact PickS.one | exact PickS.here | exact PickS.nil | apply PickS.there | apply PickS.far)))), ⟨rfl, by omega⟩⟩
      ·
        rw [bstr_size] at h8_3
        refine TL.nil ?_
        refine T.cond_f rfl ?_
        refine T.skip ?_
        refine T.seq ?_
        refine T.region ?_
        refine TL.cons rfl (V1.t (V1.move' (by (conv => lhs; whnf) <;> rfl)) ?_)
        refine TL.cons rfl (V1.t (V1.move' (v := byteV ((keyOf key).getD i 0)) (show Value.int .u8 0 = _ from by rw [List.getD_eq_getElem?_getD, List.getElem?_eq_none (by omega)]; rfl)) ?_)
        refine TL.cons rfl (V1.t (V1.xorW (b := 54#8) u8U rfl rfl) ?_)
        refine TL.cons rfl (T1.buildSl1 (os := [.tmp 28]) (vs := [byteV ((keyOf key).getD i 0 ^^^ 54)]) ty_22 sz_5 zr_5 (by decide) rfl (.cons rfl .nil) rfl (ones rfl) (fun b29 => ?_))
        refine TL.cons rfl (V1.t (V1.bytesToStr (l := [(keyOf key).getD i 0 ^^^ 54]) ty_22 ty_5 ty_9 rfl (.sl (n := 1) (RdN.at0 (cells := [byteV ((keyOf key).getD i 0 ^^^ 54)]) (by repeat (first | exact Find.here | assumption | apply Find.there | apply Find.far))) rfl) (by intro b h; cases h)) ?_)
        refine TL.cons rfl (V1.t (V1.addB rfl rfl (by rw [List.length_take, List.length_singleton]; omega)) ?_)
        refine TL.cons rfl (V1.t (V1.assign' (by (conv => lhs; whnf) <;> rfl)) ?_)
        refine TL.nil ?_
        refine T.region ?_
        refine TL.cons rfl (V1.t (V1.move' (by (conv => lhs; whnf) <;> rfl)) ?_)
        refine TL.cons rfl (V1.t (V1.move' (v := byteV ((keyOf key).getD i 0)) (show Value.int .u8 0 = _ from by rw [List.getD_eq_getElem?_getD, List.getElem?_eq_none (by omega)]; rfl)) ?_)
        refine TL.cons rfl (V1.t (V1.xorW (b := 92#8) u8U rfl rfl) ?_)
        refine TL.cons rfl (T1.buildSl1 (os := [.tmp 34]) (vs := [byteV ((keyOf key).getD i 0 ^^^ 92)]) ty_22 sz_5 zr_5 (by decide) rfl (.cons rfl .nil) rfl (ones rfl) (fun b35 => ?_))
        refine TL.cons rfl (V1.t (V1.bytesToStr (l := [(keyOf key).getD i 0 ^^^ 92]) ty_22 ty_5 ty_9 rfl (.sl (n := 1) (RdN.at0 (cells := [byteV ((keyOf key).getD i 0 ^^^ 92)]) (by repeat (first | exact Find.here | assumption | apply Find.there | apply Find.far))) rfl) (by intro b h; cases h)) ?_)
        refine TL.cons rfl (V1.t (V1.addB rfl rfl (by rw [List.length_take, List.length_singleton]; omega)) ?_)
        refine TL.cons rfl (V1.t (V1.assign' (by (conv => lhs; whnf) <;> rfl)) ?_)
        refine TL.nil ?_
        refine T.live (l := [(0, _), (1, _), (4, _), (5, _), (6, _), (7, _)]) (.cons (by (conv => lhs; whnf) <;> rfl) (.cons (by (conv => lhs; whnf) <;> rfl) (.cons (by (conv => lhs; whnf) <;> rfl) (.cons (by (conv => lhs; whnf) <;> rfl) (.cons (by (conv => lhs; whnf) <;> rfl) (.cons (by (conv => lhs; whnf) <;> rfl) .nil)))))) (fun e_ => ?_)
        refine T.region ?_
        refine TL.cons rfl (V1.t (V1.move' (by (conv => lhs; whnf) <;> rfl)) ?_)
        refine TL.cons rfl (V1.t (V1.add rfl rfl (wrap_i64 _ (by omega) (by omega))) ?_)
        refine TL.cons rfl (V1.t (V1.assign' (by (conv => lhs; whnf) <;> rfl)) ?_)
        refine TL.nil ?_
        exact ⟨i + 1, _, _, (by simp only; omega), (.cons rfl (.cons (congrArg (fun q => Value.string (bstr q)) (ipad_take (by omega))) (.cons (congrArg (fun q => Value.string (bstr q)) (opad_take (by omega))) .nil))), (.cons rfl (.cons rfl (.cons rfl .nil))), (by repeat (first | exact Take.nil | apply Take.one (by repeat (first | exact Pick.here | apply Pick.there | apply Pick.far)) | apply Take.seg (by repeat (first | exact PickS.last | exact PickS.one | exact PickS.here | exact PickS.nil | apply PickS.there | apply PickS.far)) | exact Take.last (by repeat (first | exact PickS.last | exact PickS.one | exact PickS.here | exact PickS.nil | apply PickS.there | apply PickS.far)))), ⟨rfl, by omega⟩⟩
    ·
      obtain rfl : i = 64 := by omega
      rw [List.take_of_length_le (by rw [ipad_len]; exact Nat.le_refl _), List.take_of_length_le (by rw [opad_len]; exact Nat.le_refl _)]
      refine TL.nil ?_
      refine T.cond_f rfl ?_
      refine T.exit ?_
      refine T.seq ?_
      refine T.region ?_
      refine TL.cons rfl (V1.t (V1.move' (by (conv => lhs; whnf) <;> rfl)) ?_)
      refine TL.cons rfl (V1.t (V1.move' (by (conv => lhs; whnf) <;> rfl)) ?_)
      refine TL.cons rfl (V1.t (V1.move' (by (conv => lhs; whnf) <;> rfl)) ?_)
      refine TL.cons rfl (V1.t (V1.addB rfl rfl (by rw [ipad_len]; omega)) ?_)
      refine TL.cons rfl (T1.call0 has_20 rfl (fun w hs => refSum256_any (ipad key ++ m) w (by rw [List.length_append, ipad_len]; omega)) (fun v hv => ?_))
      subst hv
      refine TL.cons rfl (T1.call0 has_44 rfl (fun w hs => reftext_any (sha T256 (ipad key ++ m)) w (sha_len _ _)) (fun v hv => ?_))
      subst hv
      refine TL.cons rfl (V1.t (V1.addB rfl rfl (by rw [opad_len, sha_len]; decide)) ?_)
      refine TL.cons rfl (T1.call0 has_20 rfl (fun w hs => refSum256_any (opad key ++ sha T256 (ipad key ++ m)) w (by rw [List.length_append, opad_len, sha_len]; decide)) (fun v hv => ?_))
      subst hv
      refine TL.cons rfl (T1.storeN (vs := (hmac key m).map byteV) rfl rfl sz_26 (one_bytes _) (by repeat (first | exact Sub.one | apply Sub.there | apply Sub.far)) (by rw [List.length_map, hmac_len]; rfl) (by rw [List.length_map, hmac_len]) ?_)
      refine TL.nil ?_
      refine T.ret ?_
      exact ⟨_, [], _, .cons (.cellN (by (conv => lhs; whnf) <;> rfl) one_26 sz_26 (RdN.whole (cells := (hmac key m).map byteV) (by repeat (first | exact Find.here | assumption | apply Find.there | apply Find.far))) (by rw [List.length_map, hmac_len])) .nil, Take.nil, rfl, rfl⟩

end Go.Proofs.Ytelcmllfojfbfaa.S
