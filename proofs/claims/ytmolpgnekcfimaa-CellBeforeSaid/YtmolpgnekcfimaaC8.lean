/- The document's digits and records. -/
import Derived.Test.YtmolpgnekcfimaaC1
import Derived.Test.YtmolpgnekcfimaaS9
namespace Go.Proofs.Ytmolpgnekcfimaa.S
open Go.RowKit

open Sh
theorem quo256 {n j : Nat} (hn : n < 9223372036854775808) : IntKind.wrap .i64 (((n / 256 ^ j : Nat) : Int).tdiv 256) = ((n / 256 ^ (j + 1) : Nat) : Int) := by
  have h1 := Nat.div_le_self n (256 ^ (j + 1))
  obtain ⟨q, hq⟩ : ∃ q, q = n / 256 ^ (j + 1) := ⟨_, rfl⟩
  have e : (((n / 256 ^ j : Nat) : Int).tdiv 256) = (q : Int) := by rw [hq, Nat.pow_succ, ← Nat.div_div_eq_div_mul]; exact (Int.ofNat_tdiv _ 256).symm
  rw [← hq] at h1
  rw [e, ← hq]
  exact wrap_i64 _ (by omega) (by omega)
theorem getD_get8 {l : List UInt8} {i : Nat} (h : i < l.length) : l[i]? = some (l.getD i 0) := by
  rw [List.getD_eq_getElem?_getD, List.getElem?_eq_getElem h]; rfl

set_option maxRecDepth 100000 in
theorem refdigits_any (n wd : Nat) (w : World) (hn : n < 9223372036854775808) (hw : wd ≤ 8) : Fn P 35 [.int .i64 (n : Int), .int .i64 (wd : Int)] w [] (fun v Y => Y = [] ∧ v = .string (bstr (dig n wd))) := by
  refine Fn.of 22 [.tmp 4] Go.Proofs.Try.func35 rfl rfl rfl rfl ?_
  refine T.seq ?_
  refine T.region ?_
  refine TL.cons rfl (V1.t (V1.assign' (by (conv => lhs; whnf) <;> rfl)) ?_)
  refine TL.nil ?_
  refine T.seq ?_
  refine T.region ?_
  refine TL.cons rfl (V1.t (V1.assign' (by (conv => lhs; whnf) <;> rfl)) ?_)
  refine TL.nil ?_
  refine T.seq ?_
  refine T.seq ?_
  refine T.region ?_
  refine TL.cons rfl (V1.t (V1.assign' (by (conv => lhs; whnf) <;> rfl)) ?_)
  refine TL.nil ?_
  refine T.block ?_
  refine T.loopL (σ := Nat) (l0 := [(1, _)]) (fun x => [(0, .int .i64 ((n / 256 ^ x : Nat) : Int)), (5, .string (bstr (dig n x))), (6, .int .i64 (x : Nat))]) (fun x L => L = [] ∧ x ≤ wd) (fun x => wd - x) 0 (.cons (show Value.int .i64 (n : Int) = Value.int .i64 ((n / 256 ^ 0 : Nat) : Int) from by rw [Nat.pow_zero, Nat.div_one]) (.cons rfl (.cons rfl .nil))) (.cons (by (conv => lhs; whnf) <;> rfl) .nil) Take.nil (⟨rfl, Nat.zero_le _⟩) ?_
  rintro j e_ L ⟨rfl, hj⟩
  refine T.seq ?_
  refine T.seq ?_
  refine T.region ?_
  refine TL.cons rfl (V1.t (V1.move' (by (conv => lhs; whnf) <;> rfl)) ?_)
  refine TL.cons rfl (V1.t (V1.move' (by (conv => lhs; whnf) <;> rfl)) ?_)
  refine TL.cons rfl (T1.ltI_split rfl rfl (fun h3 => ?_) (fun h3 => ?_))
  ·
    try simp only at h3
    have hdl : (dig n j).length ≤ 8 := by rw [dig_len]; omega
    refine TL.nil ?_
    refine T.cond_t rfl ?_
    refine T.skip ?_
    refine T.seq ?_
    refine T.block ?_
    refine T.seq ?_
    refine T.region ?_
    refine TL.cons rfl (V1.t (V1.move' (by (conv => lhs; whnf) <;> rfl)) ?_)
    refine TL.cons rfl (V1.t (V1.rem (c := ((n / 256 ^ j % 256 : Nat) : Int)) rfl rfl (by decide) ((Int.ofNat_tmod _ 256).symm)) ?_)
    refine TL.cons rfl (V1.t (V1.conv (c := (((UInt8.ofNat (n / 256 ^ j)).toNat : Nat) : Int)) ty_3 ty_5 rfl (by rw [UInt8.toNat_ofNat', show (2 : Nat) ^ 8 = 256 from rfl, wrap_u8 _ (by omega) (by omega)])) ?_)
    refine TL.cons rfl (T1.buildSl1 (os := [.tmp 14]) (vs := List.map byteV [UInt8.ofNat (n / 256 ^ j)]) ty_33 sz_5 zr_5 (by decide) rfl (.cons rfl .nil) rfl (ones rfl) (fun b15 => ?_))
    refine TL.cons rfl (V1.t (V1.bytesToStr (l := [UInt8.ofNat (n / 256 ^ j)]) ty_33 ty_5 ty_9 rfl (.sl (n := 1) (RdN.at0 (cells := ([UInt8.ofNat (n / 256 ^ j)] : List UInt8).map byteV) (by repeat (first | exact Find.here | assumption | apply Find.there | apply Find.far))) rfl) (by intro b h; cases h)) ?_)
    refine TL.cons rfl (V1.t (V1.move' (by (conv => lhs; whnf) <;> rfl)) ?_)
    refine TL.cons rfl (V1.t (V1.addB (l := [UInt8.ofNat (n / 256 ^ j)]) (m := dig n j) rfl rfl (by rw [List.length_singleton]; omega)) ?_)
    refine TL.cons rfl (V1.t (V1.assign' (by (conv => lhs; whnf) <;> rfl)) ?_)
    refine TL.nil ?_
    refine T.region ?_
    refine TL.cons rfl (V1.t (V1.move' (by (conv => lhs; whnf) <;> rfl)) ?_)
    refine TL.cons rfl (V1.t (V1.quo (c := ((n / 256 ^ (j + 1) : Nat) : Int)) rfl rfl (by decide) (quo256 hn)) ?_)
    refine TL.cons rfl (V1.t (V1.assign' (by (conv => lhs; whnf) <;> rfl)) ?_)
    refine TL.nil ?_
    refine T.region ?_
    refine TL.cons rfl (V1.t (V1.move' (by (conv => lhs; whnf) <;> rfl)) ?_)
    refine TL.cons rfl (V1.t (V1.add rfl rfl (wrap_i64 _ (by omega) (by omega))) ?_)
    refine TL.cons rfl (V1.t (V1.assign' (by (conv => lhs; whnf) <;> rfl)) ?_)
    refine TL.nil ?_
    exact ⟨j + 1, _, _, (by simp only; omega), (.cons rfl (.cons rfl (.cons rfl .nil))), (.cons rfl .nil), Take.nil, ⟨rfl, by omega⟩⟩
  ·
    try simp only at h3
    obtain rfl : j = wd := by omega
    refine TL.nil ?_
    refine T.cond_f rfl ?_
    refine T.exit ?_
    refine T.seq ?_
    refine T.region ?_
    refine TL.cons rfl (V1.t (V1.move' (by (conv => lhs; whnf) <;> rfl)) ?_)
    refine TL.cons rfl (V1.t (V1.assign' (by (conv => lhs; whnf) <;> rfl)) ?_)
    refine TL.nil ?_
    refine T.ret ?_
    exact ⟨_, [], _, .cons (.tmp (by (conv => lhs; whnf) <;> rfl)) .nil, Take.nil, rfl, rfl⟩

set_option maxRecDepth 100000 in
theorem refRecord_any (k : Nat) (v : List UInt8) (w : World) (hk : k < 9223372036854775808) (hv : v.length ≤ 1000000) : Fn P 31 [.int .i64 (k : Int), .string (bstr v)] w [] (fun x Y => Y = [] ∧ x = .string (bstr (recB k v))) := by
  refine Fn.of 35 [.tmp 4] Go.Proofs.Try.func31 rfl rfl rfl rfl ?_
  refine T.seq ?_
  refine T.region ?_
  refine TL.cons rfl (V1.t (V1.assign' (by (conv => lhs; whnf) <;> rfl)) ?_)
  refine TL.nil ?_
  refine T.seq ?_
  refine T.region ?_
  refine TL.cons rfl (V1.t (V1.move' (by (conv => lhs; whnf) <;> rfl)) ?_)
  refine TL.cons rfl (T1.call0 has_35 rfl (fun w hs => refdigits_any k 8 w (by omega) (by decide)) (fun v_ hv => ?_))
  obtain rfl := hv
  refine TL.cons rfl (V1.t (V1.move' (by (conv => lhs; whnf) <;> rfl)) ?_)
  refine TL.cons rfl (V1.t (V1.lenS ty_9 rfl) ?_)
  refine TL.cons rfl (T1.call0 has_35 rfl (fun w hs => refdigits_any v.length 4 w (by omega) (by decide)) (fun v_ hv => ?_))
  obtain rfl := hv
  refine TL.cons rfl (V1.t (V1.addB rfl rfl (by rw [dig_len, dig_len]; decide)) ?_)
  refine TL.cons rfl (V1.t (V1.assign' (by (conv => lhs; whnf) <;> rfl)) ?_)
  refine TL.nil ?_
  refine T.seq ?_
  refine T.region ?_
  refine TL.cons rfl (V1.t (V1.move' (by (conv => lhs; whnf) <;> rfl)) ?_)
  refine TL.cons rfl (V1.t (V1.move' (by (conv => lhs; whnf) <;> rfl)) ?_)
  refine TL.cons rfl (V1.t (V1.addB (l := (dig k 8 ++ dig v.length 4)) (m := v) rfl rfl (by rw [List.length_append, dig_len, dig_len]; omega)) ?_)
  refine TL.cons rfl (T1.call0 has_36 rfl (fun w hs => refSum256_any ((dig k 8 ++ dig v.length 4) ++ v) w (by rw [List.length_append, List.length_append, dig_len, dig_len]; omega)) (fun v_ hv => ?_))
  obtain rfl := hv
  refine TL.cons rfl (T1.allocN 32 zr_63 rfl (fun b6 => ?_))
  refine TL.cons rfl (T1.storeN (vs := (sha T256 ((dig k 8 ++ dig v.length 4) ++ v)).map byteV) rfl rfl sz_63 (one_bytes _) (by repeat (first | exact Sub.one | apply Sub.there | apply Sub.far)) (by rw [List.length_map, sha_len]; rfl) (by rw [List.length_map, sha_len]) ?_)
  refine TL.nil ?_
  refine T.seq ?_
  refine T.region ?_
  refine TL.cons rfl (V1.t (V1.assign' (by (conv => lhs; whnf) <;> rfl)) ?_)
  refine TL.nil ?_
  refine T.seq ?_
  refine T.seq ?_
  refine T.live (l := [(1, _), (5, _), (6, _), (7, _)]) (.cons (by (conv => lhs; whnf) <;> rfl) (.cons (by (conv => lhs; whnf) <;> rfl) (.cons (by (conv => lhs; whnf) <;> rfl) (.cons (by (conv => lhs; whnf) <;> rfl) .nil)))) (fun e_ => ?_)
  refine T.region ?_
  refine TL.cons rfl (V1.t (V1.assign' (by (conv => lhs; whnf) <;> rfl)) ?_)
  refine TL.nil ?_
  refine T.block ?_
  refine T.loopL (σ := Nat) (l0 := [(1, _), (5, _), (6, _)]) (fun x => [(7, .string (bstr ((sha T256 ((dig k 8 ++ dig v.length 4) ++ v)).take x))), (8, .int .i64 (x : Nat))]) (fun x L => L = [⟨b6, 0, (sha T256 ((dig k 8 ++ dig v.length 4) ++ v)).map byteV, 32⟩] ∧ x ≤ 32) (fun x => 32 - x) 0 (.cons rfl (.cons rfl .nil)) (.cons (by (conv => lhs; whnf) <;> rfl) (.cons (by (conv => lhs; whnf) <;> rfl) (.cons (by (conv => lhs; whnf) <;> rfl) .nil))) (by repeat (first | exact Take.nil | apply Take.one (by repeat (first | exact Pick.here | apply Pick.there | apply Pick.far)) | apply Take.seg (by repeat (first | exact PickS.last | exact PickS.one | exact PickS.here | exact PickS.nil | apply PickS.there | apply PickS.far)) | exact Take.last (by repeat (first | exact PickS.last | exact PickS.one | exact PickS.here | exact PickS.nil | apply PickS.there | apply PickS.far)))) (⟨rfl, Nat.zero_le _⟩) ?_
  rintro i e_ L ⟨rfl, hi⟩
  refine T.seq ?_
  refine T.seq ?_
  refine T.region ?_
  refine TL.cons rfl (V1.t (V1.move' (by (conv => lhs; whnf) <;> rfl)) ?_)
  refine TL.cons rfl (T1.ltI_split rfl rfl (fun h5 => ?_) (fun h5 => ?_))
  ·
    try simp only at h5
    have htl : ((sha T256 ((dig k 8 ++ dig v.length 4) ++ v)).take i).length ≤ 32 := by rw [List.length_take]; omega
    refine TL.nil ?_
    refine T.cond_t rfl ?_
    refine T.skip ?_
    refine T.seq ?_
    refine T.block ?_
    refine T.region ?_
    refine TL.cons rfl (V1.t (V1.move' (by (conv => lhs; whnf) <;> rfl)) ?_)
    refine TL.cons rfl (V1.t (V1.move' (by (conv => lhs; whnf) <;> rfl)) ?_)
    refine TL.cons rfl (V1.t (V1.indexAddrA ty_63 sz_5 rfl rfl (by omega) (by omega)) ?_)
    refine TL.cons rfl (V1.t (V1.load1 one_5 rfl (show Rd _ _ ⟨b6, 0 + i * 1, none⟩ (byteV ((sha T256 ((dig k 8 ++ dig v.length 4) ++ v)).getD i 0)) from by rw [Nat.mul_one]; exact Rd.at (cells := (sha T256 ((dig k 8 ++ dig v.length 4) ++ v)).map byteV) (by repeat (first | exact Find.here | assumption | apply Find.there | apply Find.far)) (by rw [List.getElem?_map, getD_get8 (by rw [sha_len]; omega)]; rfl))) ?_)
    refine TL.cons rfl (T1.buildSl1 (os := [.tmp 26]) (vs := List.map byteV [(sha T256 ((dig k 8 ++ dig v.length 4) ++ v)).getD i 0]) ty_33 sz_5 zr_5 (by decide) rfl (.cons rfl .nil) rfl (ones rfl) (fun b27 => ?_))
    refine TL.cons rfl (V1.t (V1.bytesToStr (l := [(sha T256 ((dig k 8 ++ dig v.length 4) ++ v)).getD i 0]) ty_33 ty_5 ty_9 rfl (.sl (n := 1) (RdN.at0 (cells := ([(sha T256 ((dig k 8 ++ dig v.length 4) ++ v)).getD i 0] : List UInt8).map byteV) (by repeat (first | exact Find.here | assumption | apply Find.there | apply Find.far))) rfl) (by intro b h; cases h)) ?_)
    refine TL.cons rfl (V1.t (V1.addB (l := (sha T256 ((dig k 8 ++ dig v.length 4) ++ v)).take i) (m := [(sha T256 ((dig k 8 ++ dig v.length 4) ++ v)).getD i 0]) rfl rfl (by rw [List.length_singleton]; omega)) ?_)
    rw [show (sha T256 ((dig k 8 ++ dig v.length 4) ++ v)).take i ++ [(sha T256 ((dig k 8 ++ dig v.length 4) ++ v)).getD i 0] = (sha T256 ((dig k 8 ++ dig v.length 4) ++ v)).take (i + 1) from by rw [List.take_add_one, getD_get8 (by rw [sha_len]; omega)]; rfl]
    refine TL.cons rfl (V1.t (V1.assign' (by (conv => lhs; whnf) <;> rfl)) ?_)
    refine TL.nil ?_
    refine T.region ?_
    refine TL.cons rfl (V1.t (V1.move' (by (conv => lhs; whnf) <;> rfl)) ?_)
    refine TL.cons rfl (V1.t (V1.add rfl rfl (wrap_i64 _ (by omega) (by omega))) ?_)
    refine TL.cons rfl (V1.t (V1.assign' (by (conv => lhs; whnf) <;> rfl)) ?_)
    refine TL.nil ?_
    exact ⟨i + 1, _, _, (by simp only; omega), (.cons rfl (.cons rfl .nil)), (.cons rfl (.cons rfl (.cons rfl .nil))), (by repeat (first | exact Take.nil | apply Take.one (by repeat (first | exact Pick.here | apply Pick.there | apply Pick.far)) | apply Take.seg (by repeat (first | exact PickS.last | exact PickS.one | exact PickS.here | exact PickS.nil | apply PickS.there | apply PickS.far)) | exact Take.last (by repeat (first | exact PickS.last | exact PickS.one | exact PickS.here | exact PickS.nil | apply PickS.there | apply PickS.far)))), ⟨rfl, by omega⟩⟩
  ·
    try simp only at h5
    obtain rfl : i = 32 := by omega
    rw [List.take_of_length_le (by rw [sha_len]; exact Nat.le_refl _)]
    refine TL.nil ?_
    refine T.cond_f rfl ?_
    refine T.exit ?_
    refine T.seq ?_
    refine T.region ?_
    refine TL.cons rfl (V1.t (V1.move' (by (conv => lhs; whnf) <;> rfl)) ?_)
    refine TL.cons rfl (V1.t (V1.move' (by (conv => lhs; whnf) <;> rfl)) ?_)
    refine TL.cons rfl (V1.t (V1.addB (l := (dig k 8 ++ dig v.length 4)) (m := (sha T256 ((dig k 8 ++ dig v.length 4) ++ v))) rfl rfl (by rw [List.length_append, dig_len, dig_len, sha_len]; decide)) ?_)
    refine TL.cons rfl (V1.t (V1.move' (by (conv => lhs; whnf) <;> rfl)) ?_)
    refine TL.cons rfl (V1.t (V1.addB (l := (dig k 8 ++ dig v.length 4) ++ (sha T256 ((dig k 8 ++ dig v.length 4) ++ v))) (m := v) rfl rfl (by rw [List.length_append, List.length_append, dig_len, dig_len, sha_len]; omega)) ?_)
    refine TL.cons rfl (V1.t (V1.assign' (by (conv => lhs; whnf) <;> rfl)) ?_)
    refine TL.nil ?_
    refine T.ret ?_
    exact ⟨_, [], _, .cons (.tmp (by (conv => lhs; whnf) <;> rfl)) .nil, Take.nil, rfl, rfl⟩

end Go.Proofs.Ytmolpgnekcfimaa.S
