/- Bytes are taken in; what ends a text. -/
import Derived.Test.YtmolpgnekcfimaaS1
import Derived.Test.YtmolpgnekcfimaaOps9
namespace Go.Proofs.Ytmolpgnekcfimaa.S
open Go.RowKit

open Sh
theorem Sl.form1 {s : Value} {l : List UInt8} {Ls : List Blk} (h : Sl s (l.map byteV) 1 Ls) : ∃ a c, s = .slice a l.length c := by
  rcases h with ⟨rfl, h, _⟩ | ⟨b, off, len, cap, size, rfl, h1, h2, h3, rfl⟩
  · obtain rfl : l = [] := by simpa using h
    exact ⟨_, _, rfl⟩
  · rw [List.length_map, Nat.mul_one] at h1
    subst h1
    exact ⟨_, _, rfl⟩
theorem Sl.own1 {a : Option Addr} {n c : Nat} {l : List UInt8} {Ls : List Blk} (h : Sl (.slice a n c) (l.map byteV) 1 Ls) (hn : 0 < n) : ∃ b off size, a = some ⟨b, off, none⟩ ∧ l.length = n ∧ n ≤ c ∧ off + c * 1 ≤ size ∧ Ls = [⟨b, off, l.map byteV, size⟩] := by
  rcases h with ⟨h, _, _⟩ | ⟨b, off, len, cap, size, h0, h1, h2, h3, rfl⟩
  · cases h; omega
  · cases h0
    rw [List.length_map, Nat.mul_one] at h1
    exact ⟨b, off, size, rfl, h1, h2, h3, rfl⟩
/-- What a block's contract says. -/
def BlockC {w : Nat} (T : Sp w) (wv : BitVec w → Value) (fid : Nat) : Prop := ∀ (w0 : World) (bh bp op size cap : Nat) (s : Value) (n : BitVec 64) (st : R8 w) (l : List UInt8), 2 * w ≤ l.length → 2 * w ≤ cap →
  FnX P fid [.pointer (some ⟨bh, 0, none⟩), .slice (some ⟨bp, op, none⟩) (2 * w) cap] w0 [] [⟨bh, 0, s :: w64 n :: (stL st).map wv, 10⟩, ⟨bp, op, l.map byteV, size⟩] (fun _ Y => Y = [⟨bh, 0, s :: w64 n :: (stL (blockS T st (l.take (2 * w)))).map wv, 10⟩, ⟨bp, op, l.map byteV, size⟩])
theorem blockC256 : BlockC T256 w32 33 := fun w0 bh bp op size cap s n st l hl _ => block256_any w0 bh bp op size cap s n st l hl

set_option maxRecDepth 100000 in
set_option maxHeartbeats 2000000 in
theorem feed_any {w : Nat} (Tp : Sp w) (wv : BitVec w → Value) (fid : Nat) (hfid : Has P fid) (hw : 0 < w) (hw64 : w ≤ 64) (hblk : BlockC Tp wv fid) (w0 : World) (bh : Nat) (s pv : Value) (n : BitVec 64) (st : R8 w) (r p : List UInt8) (Lr Ps : List Blk) (hs : Sl s (r.map byteV) 1 Lr) (hp : PartR w0 Ps pv p) (hr : r.length < 2 * w) (hpl : p.length ≤ 200000000000000) : FnX P 32 [.pointer (some ⟨bh, 0, none⟩), .int .i64 ((2 * w : Nat) : Int), pv, .func (.func fid) #[.pointer (some ⟨bh, 0, none⟩)] #[]] w0 [] (⟨bh, 0, s :: w64 (n) :: (stL st).map wv, 10⟩ :: (Lr ++ Ps)) (fun _ Y => ∃ s' Lr', Sl s' ((absorb Tp st (r ++ p)).2.map byteV) 1 Lr' ∧ Y = ⟨bh, 0, s' :: w64 (n + BitVec.ofInt 64 (p.length : Int)) :: (stL (absorb Tp st (r ++ p)).1).map wv, 10⟩ :: (Lr' ++ Ps)) := by
  obtain ⟨pa, pc, rfl⟩ := hp.form
  refine FnX.of 51 [] Go.Proofs.Try.func32 rfl rfl rfl rfl (fun G => ?_)
  rw [List.cons_append, List.append_assoc]
  refine T.seq ?_
  refine T.region ?_
  refine TL.cons rfl (V1.t (V1.move' (by (conv => lhs; whnf) <;> rfl)) ?_)
  refine TL.cons rfl (V1.t (V1.nilCheck rfl) ?_)
  refine TL.cons rfl (V1.t (V1.fieldAddr fl_80_1 rfl) ?_)
  refine TL.cons rfl (V1.t (V1.load1 one_32 rfl (.own (by repeat (first | exact Find.here | assumption | apply Find.there | apply Find.far)) (by rfl))) ?_)
  refine TL.cons rfl (V1.t (V1.move' (by (conv => lhs; whnf) <;> rfl)) ?_)
  refine TL.cons rfl (V1.t (V1.lenSl ty_33 rfl) ?_)
  refine TL.cons rfl (V1.t (V1.convI 64 u64U ty_3 ty_32 rfl) ?_)
  refine TL.cons rfl (V1.t (V1.addW u64U rfl rfl) ?_)
  refine TL.cons rfl (V1.t (V1.nilCheck rfl) ?_)
  refine TL.cons rfl (V1.t (V1.fieldAddr fl_80_1 rfl) ?_)
  refine TL.cons rfl (T1.store1 rfl rfl sz_32 rfl (by repeat (first | exact Sub.one | apply Sub.there | apply Sub.far)) (Nat.zero_le _) (by repeat (first | exact SetAt.here | apply SetAt.there)) ?_)
  refine TL.nil ?_
  refine T.seq ?_
  refine T.region ?_
  refine TL.cons rfl (V1.t (V1.move' (by (conv => lhs; whnf) <;> rfl)) ?_)
  refine TL.cons rfl (V1.t (V1.move' (by (conv => lhs; whnf) <;> rfl)) ?_)
  refine TL.cons rfl (V1.t (V1.nilCheck rfl) ?_)
  refine TL.cons rfl (V1.t (V1.fieldAddr fl_80_0 rfl) ?_)
  refine TL.cons rfl (V1.t (V1.load1 one_33 rfl (.own (by repeat (first | exact Find.here | assumption | apply Find.there | apply Find.far)) (by rfl))) ?_)
  refine TL.cons rfl (V1.t (V1.move' (by (conv => lhs; whnf) <;> rfl)) ?_)
  refine TL.cons rfl (T1.append ty_33 kd_33 sz_5 by_5 zr_5 rfl (by decide) (by decide) rfl rfl hs (hp.src _ rfl rfl _ (by intro B hB; simp only [List.mem_cons, List.mem_append]; simp [hB])) (one_bytes _) (r.length + p.length) (by simp only [List.length_map]; omega) (by omega) (by repeat (first | exact PickS.last | exact PickS.one | exact PickS.here | exact PickS.nil | apply PickS.there | apply PickS.far)) (fun s1 Ls1 hs1 => ?_))
  rw [← List.map_append] at hs1
  refine TL.cons rfl (V1.t (V1.nilCheck rfl) ?_)
  refine TL.cons rfl (V1.t (V1.fieldAddr fl_80_0 rfl) ?_)
  refine TL.cons rfl (T1.store1 rfl rfl sz_33 hs1.one (by repeat (first | exact Sub.one | apply Sub.there | apply Sub.far)) (Nat.zero_le _) (by repeat (first | exact SetAt.here | apply SetAt.there)) ?_)
  refine TL.nil ?_
  refine T.block ?_
  refine T.loopL (σ := Value × List UInt8 × R8 w × List Blk) (l0 := [(0, _), (1, _), (3, _)]) (fun x => []) (fun x L => L = ⟨bh, 0, x.1 :: w64 (n + BitVec.ofInt 64 (p.length : Int)) :: (stL x.2.2.1).map wv, 10⟩ :: (x.2.2.2 ++ (Ps ++ G)) ∧ Sl x.1 (x.2.1.map byteV) 1 x.2.2.2 ∧ absorb Tp x.2.2.1 x.2.1 = absorb Tp st (r ++ p)) (fun x => x.2.1.length) (s1, r ++ p, st, Ls1) .nil (.cons (by (conv => lhs; whnf) <;> rfl) (.cons (by (conv => lhs; whnf) <;> rfl) (.cons (by (conv => lhs; whnf) <;> rfl) .nil))) (by repeat (first | exact Take.nil | apply Take.one (by repeat (first | exact Pick.here | apply Pick.there | apply Pick.far)) | apply Take.seg (by repeat (first | exact PickS.last | exact PickS.one | exact PickS.here | exact PickS.nil | apply PickS.there | apply PickS.far)) | exact Take.last (by repeat (first | exact PickS.last | exact PickS.one | exact PickS.here | exact PickS.nil | apply PickS.there | apply PickS.far)))) (⟨rfl, hs1, rfl⟩) ?_
  rintro ⟨si, ri, sti, Li⟩ e_ L ⟨rfl, hsi, hab⟩
  simp only at hsi hab
  obtain ⟨sa, sc, rfl⟩ := hsi.form1
  refine T.seq ?_
  refine T.seq ?_
  refine T.region ?_
  refine TL.cons rfl (V1.t (V1.move' (by (conv => lhs; whnf) <;> rfl)) ?_)
  refine TL.cons rfl (V1.t (V1.nilCheck rfl) ?_)
  refine TL.cons rfl (V1.t (V1.fieldAddr fl_80_0 rfl) ?_)
  refine TL.cons rfl (V1.t (V1.load1 one_33 rfl (.own (by repeat (first | exact Find.here | assumption | apply Find.there | apply Find.far)) (by rfl))) ?_)
  refine TL.cons rfl (V1.t (V1.lenSl ty_33 rfl) ?_)
  refine TL.cons rfl (V1.t (V1.move' (by (conv => lhs; whnf) <;> rfl)) ?_)
  refine TL.cons rfl (T1.geI_split rfl rfl (fun h2_6 => ?_) (fun h2_6 => ?_))
  ·
    obtain ⟨bb, off, size, rfl, _, hcap, hsz, rfl⟩ := hsi.own1 (by omega)
    refine TL.nil ?_
    refine T.cond_t rfl ?_
    refine T.skip ?_
    refine T.block ?_
    refine T.seq ?_
    refine T.region ?_
    refine TL.cons rfl (V1.t (V1.move' (by (conv => lhs; whnf) <;> rfl)) ?_)
    refine TL.cons rfl (V1.t (V1.move' (by (conv => lhs; whnf) <;> rfl)) ?_)
    refine TL.cons rfl (V1.t (V1.nilCheck rfl) ?_)
    refine TL.cons rfl (V1.t (V1.fieldAddr fl_80_0 rfl) ?_)
    refine TL.cons rfl (V1.t (V1.load1 one_33 rfl (.own (by repeat (first | exact Find.here | assumption | apply Find.there | apply Find.far)) (by rfl))) ?_)
    refine TL.cons rfl (V1.t (V1.move' (by (conv => lhs; whnf) <;> rfl)) ?_)
    refine TL.cons rfl (V1.t (V1.sliceTo (2 * w) ty_33 sz_5 rfl rfl rfl (by omega) (by omega)) ?_)
    refine TL.cons rfl (T1.callGX (X := [⟨bh, 0, .slice (some ⟨bb, off, none⟩) ri.length sc :: w64 (n + BitVec.ofInt 64 (p.length : Int)) :: (stL sti).map wv, 10⟩, ⟨bb, off, ri.map byteV, size⟩]) rfl hfid rfl (hblk _ _ _ _ _ _ _ _ _ _ (by omega) (by omega)) (by repeat (first | exact Take.nil | apply Take.one (by repeat (first | exact Pick.here | apply Pick.there | apply Pick.far)) | apply Take.seg (by repeat (first | exact PickS.last | exact PickS.one | exact PickS.here | exact PickS.nil | apply PickS.there | apply PickS.far)) | exact Take.last (by repeat (first | exact PickS.last | exact PickS.one | exact PickS.here | exact PickS.nil | apply PickS.there | apply PickS.far)))) (fun v Y hY => ?_))
    subst hY
    dsimp only [List.cons_append, List.nil_append]
    refine TL.nil ?_
    refine T.live (l := [(0, _), (1, _), (3, _)]) (.cons (by (conv => lhs; whnf) <;> rfl) (.cons (by (conv => lhs; whnf) <;> rfl) (.cons (by (conv => lhs; whnf) <;> rfl) .nil))) (fun e_ => ?_)
    refine T.region ?_
    refine TL.cons rfl (V1.t (V1.move' (by (conv => lhs; whnf) <;> rfl)) ?_)
    refine TL.cons rfl (V1.t (V1.move' (by (conv => lhs; whnf) <;> rfl)) ?_)
    refine TL.cons rfl (V1.t (V1.nilCheck rfl) ?_)
    refine TL.cons rfl (V1.t (V1.fieldAddr fl_80_0 rfl) ?_)
    refine TL.cons rfl (V1.t (V1.load1 one_33 rfl (.own (by repeat (first | exact Find.here | assumption | apply Find.there | apply Find.far)) (by rfl))) ?_)
    refine TL.cons rfl (V1.t (V1.move' (by (conv => lhs; whnf) <;> rfl)) ?_)
    refine TL.cons rfl (T1.sliceFwd (cells := ri.map byteV) (Ls := [⟨bb, off, ri.map byteV, size⟩]) ty_33 sz_5 rfl (.inr ⟨bb, off, ri.length, sc, size, rfl, by rw [List.length_map, Nat.mul_one], hcap, hsz, rfl⟩) (by repeat (first | exact PickS.last | exact PickS.one | exact PickS.here | exact PickS.nil | apply PickS.there | apply PickS.far)) (2 * w) rfl (by rw [List.length_map]; rfl) (by rw [List.length_map]; omega) (fun s2 Ls2 hs2 => ?_))
    rw [← List.map_drop] at hs2
    refine TL.cons rfl (V1.t (V1.nilCheck rfl) ?_)
    refine TL.cons rfl (V1.t (V1.fieldAddr fl_80_0 rfl) ?_)
    refine TL.cons rfl (T1.store1 rfl rfl sz_33 hs2.one (by repeat (first | exact Sub.one | apply Sub.there | apply Sub.far)) (Nat.zero_le _) (by repeat (first | exact SetAt.here | apply SetAt.there)) ?_)
    refine TL.nil ?_
    exact ⟨(s2, ri.drop (2 * w), blockS Tp sti (ri.take (2 * w)), Ls2), _, _, (by simp only [List.length_drop]; omega), .nil, (.cons rfl (.cons rfl (.cons rfl .nil))), (by repeat (first | exact Take.nil | apply Take.one (by repeat (first | exact Pick.here | apply Pick.there | apply Pick.far)) | apply Take.seg (by repeat (first | exact PickS.last | exact PickS.one | exact PickS.here | exact PickS.nil | apply PickS.there | apply PickS.far)) | exact Take.last (by repeat (first | exact PickS.last | exact PickS.one | exact PickS.here | exact PickS.nil | apply PickS.there | apply PickS.far)))), ⟨rfl, hs2, by rw [← absorb_block Tp hw (by omega)]; exact hab⟩⟩
  ·
    rw [absorb_small Tp (by omega)] at hab
    refine TL.nil ?_
    refine T.cond_f rfl ?_
    refine T.exit ?_
    -- the end
    exact ⟨_, ⟨bh, 0, .slice sa ri.length sc :: w64 (n + BitVec.ofInt 64 (p.length : Int)) :: (stL sti).map wv, 10⟩ :: (Li ++ (Ps ++ G)), _, .nil, (by repeat (first | exact Take.nil | apply Take.one (by repeat (first | exact Pick.here | apply Pick.there | apply Pick.far)) | apply Take.seg (by repeat (first | exact PickS.last | exact PickS.one | exact PickS.here | exact PickS.nil | apply PickS.there | apply PickS.far)) | exact Take.last (by repeat (first | exact PickS.last | exact PickS.one | exact PickS.here | exact PickS.nil | apply PickS.there | apply PickS.far)))), ⟨bh, 0, .slice sa ri.length sc :: w64 (n + BitVec.ofInt 64 (p.length : Int)) :: (stL sti).map wv, 10⟩ :: (Li ++ Ps), by simp only [List.cons_append, List.append_assoc], .slice sa ri.length sc, Li, by rw [← hab]; exact hsi, by rw [← hab]⟩

theorem tmodN (m k : Nat) : (m : Int).tmod (k : Int) = ((m % k : Nat) : Int) := (Int.ofNat_tmod m k).symm
theorem pb_hi {n i : Nat} (hi : 9 ≤ i) (hn : n < 2 ^ 64) : UInt8.ofNat (8 * n / 256 ^ i) = 0 := by
  rw [Nat.div_eq_of_lt]
  · rfl
  · have : (256 : Nat) ^ 9 ≤ 256 ^ i := Nat.pow_le_pow_right (by omega) hi
    omega
theorem pb_0 (n : BitVec 64) : (((n >>> (8 * 0)) <<< 3).setWidth 8).toNat = (UInt8.ofNat (8 * n.toNat / 256 ^ 0)).toNat := by
  rw [BitVec.toNat_setWidth, BitVec.toNat_shiftLeft, BitVec.toNat_ushiftRight, UInt8.toNat_ofNat', Nat.shiftLeft_eq, Nat.mul_zero, Nat.shiftRight_zero]
  simp only [Nat.pow_zero, Nat.div_one]; omega
theorem pb_mid (n : BitVec 64) {i : Nat} (hi : 0 < i) : ((((n >>> (8 * i)) <<< 3).setWidth 8) ||| ((((n >>> (8 * i - 8)) &&& 255#64) >>> 5).setWidth 8)).toNat = (UInt8.ofNat (8 * n.toNat / 256 ^ i)).toNat := by
  have e1 : (((n >>> (8 * i)) <<< 3).setWidth 8).toNat = (n.toNat / 256 ^ i % 32) * 2 ^ 3 := by
    rw [BitVec.toNat_setWidth, BitVec.toNat_shiftLeft, BitVec.toNat_ushiftRight, Nat.shiftLeft_eq, Nat.shiftRight_eq_div_pow, Nat.pow_mul]
    obtain ⟨q, hq⟩ : ∃ q, q = n.toNat / (2 ^ 8) ^ i := ⟨_, rfl⟩
    rw [← hq]; omega
  have e2 : ((((n >>> (8 * i - 8)) &&& 255#64) >>> 5).setWidth 8).toNat = n.toNat / 256 ^ (i - 1) % 256 / 32 := by
    rw [BitVec.toNat_setWidth, BitVec.toNat_ushiftRight, BitVec.toNat_and, BitVec.toNat_ushiftRight, Nat.shiftRight_eq_div_pow, Nat.shiftRight_eq_div_pow, show 8 * i - 8 = 8 * (i - 1) from by omega, Nat.pow_mul]
    rw [show (255#64).toNat = 2 ^ 8 - 1 from rfl, Nat.and_two_pow_sub_one_eq_mod]
    obtain ⟨q, hq⟩ : ∃ q, q = n.toNat / (2 ^ 8) ^ (i - 1) := ⟨_, rfl⟩
    rw [← hq]; omega
  rw [or_add e1 e2 (by omega), UInt8.toNat_ofNat', show (2 : Nat) ^ 8 = 256 from rfl, cnt_byte hi]; omega
def zmax (w n : Nat) : Nat := (2 * w - (n + 1 + w / 4) % (2 * w)) % (2 * w)
theorem zmax_lt {w : Nat} (n : Nat) (hw : 0 < w) : zmax w n < 2 * w := Nat.mod_lt _ (by omega)
theorem beBytes_take {k n j : Nat} (h : j < k) : (beBytes k n).take (j + 1) = (beBytes k n).take j ++ [UInt8.ofNat (n / 256 ^ (k - 1 - j))] := by
  rw [List.take_add_one, beBytes_get h]; rfl
/-- The text's end as far as it is made. -/
def padTo (w n z j : Nat) : List UInt8 := 128 :: (List.replicate z 0 ++ (beBytes (w / 4) (8 * n)).take j)
theorem padTo_z {w n z : Nat} : padTo w n z 0 ++ [0] = padTo w n (z + 1) 0 := by
  unfold padTo
  rw [List.take_zero, List.append_nil, List.append_nil, List.replicate_succ', List.cons_append]
theorem padTo_j {w n j : Nat} (z : Nat) (h : j < w / 4) : padTo w n z j ++ [UInt8.ofNat (8 * n / 256 ^ (w / 4 - 1 - j))] = padTo w n z (j + 1) := by
  unfold padTo
  rw [beBytes_take h, List.cons_append, List.append_assoc]
theorem padTo_pad {w n : Nat} : padTo w n (zmax w n) (w / 4) = pad w n := by
  unfold padTo pad zmax
  rw [List.take_of_length_le (by rw [beBytes_len]; exact Nat.le_refl _)]
theorem padTo_len {w n z j : Nat} (h : j ≤ w / 4) : (padTo w n z j).length = 1 + z + j := by
  unfold padTo
  rw [List.length_cons, List.length_append, List.length_replicate, List.length_take, beBytes_len, Nat.min_eq_left h]; omega

set_option maxRecDepth 100000 in
set_option maxHeartbeats 4000000 in
theorem padding32_any (w0 : World) (bh : Nat) (sv : Value) (n : BitVec 64) (X : List Value) (hn : n.toNat < 4611686018427387904) : FnX P 34 [.pointer (some ⟨bh, 0, none⟩), .int .i64 64, .int .i64 8] w0 [] [⟨bh, 0, sv :: w64 n :: X, 10⟩] (fun v Y => ∃ Lp, Sl v ((pad 32 n.toNat).map byteV) 1 Lp ∧ Y = Lp ++ [⟨bh, 0, sv :: w64 n :: X, 10⟩]) := by
  refine FnX.of 68 [.tmp 6] Go.Proofs.Try.func34 rfl rfl rfl rfl (fun G => ?_)
  refine T.seq ?_
  refine T.region ?_
  refine TL.cons rfl (V1.t (V1.assign' (by (conv => lhs; whnf) <;> rfl)) ?_)
  refine TL.nil ?_
  refine T.seq ?_
  refine T.region ?_
  refine TL.cons rfl (T1.buildSl1 (os := [.const (.int .u8 128)]) ty_33 sz_5 zr_5 (by decide) rfl (.cons (by (conv => lhs; whnf) <;> rfl) .nil) rfl (ones rfl) (fun b10 => ?_))
  refine TL.cons rfl (V1.t (V1.assign' (by (conv => lhs; whnf) <;> rfl)) ?_)
  refine TL.nil ?_
  refine T.seq ?_
  refine T.block ?_
  refine T.loopL (σ := Value × Nat × List Blk) (l0 := [(0, _), (1, _), (2, _)]) (fun x => [(7, x.1)]) (fun x L => L = x.2.2 ++ (⟨bh, 0, sv :: w64 n :: X, 10⟩ :: G) ∧ Sl x.1 ((padTo 32 n.toNat x.2.1 0).map byteV) 1 x.2.2 ∧ x.2.1 ≤ zmax 32 n.toNat) (fun x => zmax 32 n.toNat - x.2.1) (_, 0, [⟨b10, 0, [byteV 128], 1⟩]) (.cons rfl .nil) (.cons (by (conv => lhs; whnf) <;> rfl) (.cons (by (conv => lhs; whnf) <;> rfl) (.cons (by (conv => lhs; whnf) <;> rfl) .nil))) (by repeat (first | exact Take.nil | apply Take.one (by repeat (first | exact Pick.here | apply Pick.there | apply Pick.far)) | apply Take.seg (by repeat (first | exact PickS.last | exact PickS.one | exact PickS.here | exact PickS.nil | apply PickS.there | apply PickS.far)) | exact Take.last (by repeat (first | exact PickS.last | exact PickS.one | exact PickS.here | exact PickS.nil | apply PickS.there | apply PickS.far)))) (⟨rfl, .inr ⟨b10, 0, 1, 1, 1, rfl, rfl, by omega, by omega, rfl⟩, Nat.zero_le _⟩) ?_
  rintro ⟨si, z, Li⟩ e_ L ⟨rfl, hsi, hz⟩
  simp only at hsi hz
  obtain ⟨sa, sc, rfl⟩ := hsi.form1
  have hpl0 : (padTo 32 n.toNat z 0).length = 1 + z := padTo_len (Nat.zero_le _)
  have hzm := zmax_lt (w := 32) n.toNat (by decide)
  refine T.seq ?_
  refine T.seq ?_
  refine T.region ?_
  refine TL.cons rfl (V1.t (V1.move' (by (conv => lhs; whnf) <;> rfl)) ?_)
  refine TL.cons rfl (V1.t (V1.nilCheck rfl) ?_)
  refine TL.cons rfl (V1.t (V1.fieldAddr fl_80_1 rfl) ?_)
  refine TL.cons rfl (V1.t (V1.load1 one_32 rfl (.own (by repeat (first | exact Find.here | assumption | apply Find.there | apply Find.far)) (by rfl))) ?_)
  refine TL.cons rfl (V1.t (V1.conv ty_32 ty_3 rfl (wrap_i64 _ (by omega) (by omega))) ?_)
  refine TL.cons rfl (V1.t (V1.move' (by (conv => lhs; whnf) <;> rfl)) ?_)
  refine TL.cons rfl (V1.t (V1.lenSl ty_33 rfl) ?_)
  refine TL.cons rfl (V1.t (V1.add rfl rfl (wrap_i64 _ (by omega) (by omega))) ?_)
  refine TL.cons rfl (V1.t (V1.move' (by (conv => lhs; whnf) <;> rfl)) ?_)
  refine TL.cons rfl (V1.t (V1.add rfl rfl (wrap_i64 _ (by omega) (by omega))) ?_)
  refine TL.cons rfl (V1.t (V1.move' (by (conv => lhs; whnf) <;> rfl)) ?_)
  refine TL.cons rfl (V1.t (V1.rem (c := (((n.toNat + (1 + z) + 8) % 64 : Nat) : Int)) rfl rfl (by omega) (by rw [padTo_len (Nat.zero_le _)]; exact tmodN (n.toNat + (1 + z) + 8) 64)) ?_)
  refine TL.cons rfl (T1.neI_split rfl rfl (fun h2_12 => ?_) (fun h2_12 => ?_))
  ·
    have hz2 : z < zmax 32 n.toNat := by
      unfold zmax at hz ⊢
      omega
    refine TL.nil ?_
    refine T.cond_t rfl ?_
    refine T.skip ?_
    refine T.block ?_
    refine T.region ?_
    refine TL.cons rfl (V1.t (V1.move' (by (conv => lhs; whnf) <;> rfl)) ?_)
    refine TL.cons rfl (T1.buildSl1 (os := [.const (.int .u8 0)]) ty_33 sz_5 zr_5 (by decide) rfl (.cons (by (conv => lhs; whnf) <;> rfl) .nil) rfl (ones rfl) (fun b25 => ?_))
    refine TL.cons rfl (T1.append ty_33 kd_33 sz_5 by_5 zr_5 rfl (by decide) (by decide) rfl rfl hsi (.sl (n := 1) (RdN.at0 (cells := [byteV 0]) (by repeat (first | exact Find.here | assumption | apply Find.there | apply Find.far))) rfl) (one_bytes [0]) 1000 (by simp only [List.length_map, List.length_cons, List.length_nil]; rw [padTo_len (by omega)]; unfold zmax at *; omega) (by omega) (by repeat (first | exact PickS.last | exact PickS.one | exact PickS.here | exact PickS.nil | apply PickS.there | apply PickS.far)) (fun s2 Ls2 hs2 => ?_))
    rw [show [byteV 0] = ([0] : List UInt8).map byteV from rfl, ← List.map_append, padTo_z] at hs2
    refine TL.cons rfl (V1.t (V1.assign' (by (conv => lhs; whnf) <;> rfl)) ?_)
    refine TL.nil ?_
    exact ⟨(s2, z + 1, Ls2), _, _, (by simp only; omega), (.cons rfl .nil), (.cons rfl (.cons rfl (.cons rfl .nil))), (by repeat (first | exact Take.nil | apply Take.one (by repeat (first | exact Pick.here | apply Pick.there | apply Pick.far)) | apply Take.seg (by repeat (first | exact PickS.last | exact PickS.one | exact PickS.here | exact PickS.nil | apply PickS.there | apply PickS.far)) | exact Take.last (by repeat (first | exact PickS.last | exact PickS.one | exact PickS.here | exact PickS.nil | apply PickS.there | apply PickS.far)))), ⟨rfl, hs2, by simp only; omega⟩⟩
  ·
    have hz2 : z = zmax 32 n.toNat := by
      unfold zmax at hz ⊢
      omega
    subst hz2
    refine TL.nil ?_
    refine T.cond_f rfl ?_
    refine T.exit ?_
    refine T.seq ?_
    refine T.seq ?_
    refine T.region ?_
    refine TL.cons rfl (V1.t (V1.move' (by (conv => lhs; whnf) <;> rfl)) ?_)
    refine TL.cons rfl (V1.t (V1.sub rfl rfl (wrap_i64 _ (by omega) (by omega))) ?_)
    refine TL.cons rfl (V1.t (V1.assign' (by (conv => lhs; whnf) <;> rfl)) ?_)
    refine TL.nil ?_
    refine T.block ?_
    refine T.loopL (σ := Value × Nat × List Blk) (l0 := [(0, _)]) (fun x => [(7, x.1), (8, .int .i64 ((x.2.1 : Int) - 1))]) (fun x L => L = x.2.2 ++ (⟨bh, 0, sv :: w64 n :: X, 10⟩ :: G) ∧ Sl x.1 ((padTo 32 n.toNat (zmax 32 n.toNat) (8 - x.2.1)).map byteV) 1 x.2.2 ∧ x.2.1 ≤ 8) (fun x => x.2.1) (_, 8, Li) (.cons rfl (.cons rfl .nil)) (.cons (by (conv => lhs; whnf) <;> rfl) .nil) (by repeat (first | exact Take.nil | apply Take.one (by repeat (first | exact Pick.here | apply Pick.there | apply Pick.far)) | apply Take.seg (by repeat (first | exact PickS.last | exact PickS.one | exact PickS.here | exact PickS.nil | apply PickS.there | apply PickS.far)) | exact Take.last (by repeat (first | exact PickS.last | exact PickS.one | exact PickS.here | exact PickS.nil | apply PickS.there | apply PickS.far)))) (⟨rfl, (by simp only [Nat.sub_self]; exact hsi), Nat.le_refl _⟩) ?_
    rintro ⟨si, y, Li⟩ e_ L ⟨rfl, hsi, hy⟩
    simp only at hsi hy
    obtain ⟨sa, sc, rfl⟩ := hsi.form1
    refine T.seq ?_
    refine T.seq ?_
    refine T.region ?_
    refine TL.cons rfl (V1.t (V1.move' (by (conv => lhs; whnf) <;> rfl)) ?_)
    refine TL.cons rfl (T1.geI_split rfl rfl (fun h5_1 => ?_) (fun h5_1 => ?_))
    ·
      simp only at h5_1
      obtain ⟨i, rfl⟩ : ∃ i, y = i + 1 := ⟨y - 1, by omega⟩
      refine TL.nil ?_
      refine T.cond_t rfl ?_
      refine T.skip ?_
      refine T.seq ?_
      refine T.block ?_
      refine T.seq ?_
      refine T.region ?_
      refine TL.cons rfl (V1.t (V1.assign' (by (conv => lhs; whnf) <;> rfl)) ?_)
      refine TL.nil ?_
      refine T.seq ?_
      refine T.seq ?_
      refine T.region ?_
      refine TL.cons rfl (V1.t (V1.move' (v := .int .i64 (i : Int)) (congrArg (Value.int .i64) (show ((i + 1 : Nat) : Int) - 1 = (i : Int) by omega))) ?_)
      refine TL.cons rfl (V1.t (V1.ltI rfl rfl (decide_eq_true (by omega))) ?_)
      refine TL.nil ?_
      refine T.cond_t rfl ?_
      refine T.region ?_
      refine TL.cons rfl (V1.t (V1.move' (by (conv => lhs; whnf) <;> rfl)) ?_)
      refine TL.cons rfl (V1.t (V1.nilCheck rfl) ?_)
      refine TL.cons rfl (V1.t (V1.fieldAddr fl_80_1 rfl) ?_)
      refine TL.cons rfl (V1.t (V1.load1 one_32 rfl (.own (by repeat (first | exact Find.here | assumption | apply Find.there | apply Find.far)) (by rfl))) ?_)
      refine TL.cons rfl (V1.t (V1.move' (v := .int .i64 (i : Int)) (congrArg (Value.int .i64) (show ((i + 1 : Nat) : Int) - 1 = (i : Int) by omega))) ?_)
      refine TL.cons rfl (V1.t (V1.mul rfl rfl (wrap_i64 _ (by omega) (by omega))) ?_)
      refine TL.cons rfl (V1.t (V1.shrW (k := 8 * i) u64U rfl (congrArg (Value.int .i64) (show (8 : Int) * (i : Int) = ((8 * i : Nat) : Int) by omega))) ?_)
      refine TL.cons rfl (V1.t (V1.shlW (k := 3) u64U rfl rfl) ?_)
      refine TL.cons rfl (V1.t (V1.convW 8 u8U ty_32 ty_5 rfl) ?_)
      refine TL.cons rfl (V1.t (V1.assign' (by (conv => lhs; whnf) <;> rfl)) ?_)
      refine TL.nil ?_
      refine T.seq ?_
      refine T.seq ?_
      refine T.live (l := [(0, _), (7, _), (8, _), (9, _)]) (.cons (by (conv => lhs; whnf) <;> rfl) (.cons (by (conv => lhs; whnf) <;> rfl) (.cons (by (conv => lhs; whnf) <;> rfl) (.cons (by (conv => lhs; whnf) <;> rfl) .nil)))) (fun e_ => ?_)
      refine T.region ?_
      refine TL.cons rfl (V1.t (V1.move' (v := .int .i64 (i : Int)) (congrArg (Value.int .i64) (show ((i + 1 : Nat) : Int) - 1 = (i : Int) by omega))) ?_)
      refine TL.cons rfl (T1.gtI_split rfl rfl (fun h10_1 => ?_) (fun h10_1 => ?_))
      ·
        refine TL.cons rfl (V1.t (V1.move' (by (conv => lhs; whnf) <;> rfl)) ?_)
        refine TL.cons rfl (V1.t (V1.move' (v := .int .i64 (i : Int)) (congrArg (Value.int .i64) (show ((i + 1 : Nat) : Int) - 1 = (i : Int) by omega))) ?_)
        refine TL.cons rfl (V1.t (V1.ltI rfl rfl (decide_eq_true (by omega))) ?_)
        refine TL.cons rfl (V1.t (V1.pick rfl (by (conv => lhs; whnf) <;> rfl)) ?_)
        refine TL.nil ?_
        refine T.cond_t rfl ?_
        refine T.region ?_
        refine TL.cons rfl (V1.t (V1.move' (by (conv => lhs; whnf) <;> rfl)) ?_)
        refine TL.cons rfl (V1.t (V1.move' (by (conv => lhs; whnf) <;> rfl)) ?_)
        refine TL.cons rfl (V1.t (V1.nilCheck rfl) ?_)
        refine TL.cons rfl (V1.t (V1.fieldAddr fl_80_1 rfl) ?_)
        refine TL.cons rfl (V1.t (V1.load1 one_32 rfl (.own (by repeat (first | exact Find.here | assumption | apply Find.there | apply Find.far)) (by rfl))) ?_)
        refine TL.cons rfl (V1.t (V1.move' (v := .int .i64 (i : Int)) (congrArg (Value.int .i64) (show ((i + 1 : Nat) : Int) - 1 = (i : Int) by omega))) ?_)
        refine TL.cons rfl (V1.t (V1.mul rfl rfl (wrap_i64 _ (by omega) (by omega))) ?_)
        refine TL.cons rfl (V1.t (V1.sub rfl rfl (wrap_i64 _ (by omega) (by omega))) ?_)
        refine TL.cons rfl (V1.t (V1.shrW (k := 8 * i - 8) u64U rfl (congrArg (Value.int .i64) (show (8 : Int) * (i : Int) - 8 = ((8 * i - 8 : Nat) : Int) by omega))) ?_)
        refine TL.cons rfl (V1.t (V1.andW (b := 255#64) u64U rfl rfl) ?_)
        refine TL.cons rfl (V1.t (V1.shrW (k := 5) u64U rfl rfl) ?_)
        refine TL.cons rfl (V1.t (V1.convW 8 u8U ty_32 ty_5 rfl) ?_)
        refine TL.cons rfl (V1.t (V1.orW u8U rfl rfl) ?_)
        refine TL.cons rfl (V1.t (V1.assign' (by (conv => lhs; whnf) <;> rfl)) ?_)
        refine TL.nil ?_
        refine T.live (l := [(0, _), (7, _), (8, _), (9, _)]) (.cons (by (conv => lhs; whnf) <;> rfl) (.cons (by (conv => lhs; whnf) <;> rfl) (.cons (by (conv => lhs; whnf) <;> rfl) (.cons (by (conv => lhs; whnf) <;> rfl) .nil)))) (fun e_ => ?_)
        refine T.region ?_
        refine TL.cons rfl (V1.t (V1.move' (by (conv => lhs; whnf) <;> rfl)) ?_)
        refine TL.cons rfl (V1.t (V1.move' (v := byteV (UInt8.ofNat (8 * n.toNat / 256 ^ i))) (congrArg (fun z : Nat => Value.int .u8 (z : Int)) (pb_mid n (by omega)))) ?_)
        refine TL.cons rfl (T1.buildSl1 (os := [.tmp 64]) ty_33 sz_5 zr_5 (by decide) rfl (.cons (by (conv => lhs; whnf) <;> rfl) .nil) rfl (ones rfl) (fun b65 => ?_))
        refine TL.cons rfl (T1.append ty_33 kd_33 sz_5 by_5 zr_5 rfl (by decide) (by decide) rfl rfl hsi (.sl (n := 1) (RdN.at0 (cells := [byteV (UInt8.ofNat (8 * n.toNat / 256 ^ i))]) (by repeat (first | exact Find.here | assumption | apply Find.there | apply Find.far))) rfl) (one_bytes [(UInt8.ofNat (8 * n.toNat / 256 ^ i))]) 1000 (by simp only [List.length_map, List.length_cons, List.length_nil]; rw [padTo_len (by omega)]; unfold zmax at *; omega) (by omega) (by repeat (first | exact PickS.last | exact PickS.one | exact PickS.here | exact PickS.nil | apply PickS.there | apply PickS.far)) (fun s2 Ls2 hs2 => ?_))
        rw [show [byteV (UInt8.ofNat (8 * n.toNat / 256 ^ i))] = [UInt8.ofNat (8 * n.toNat / 256 ^ (32 / 4 - 1 - (8 - (i + 1))))].map byteV from by rw [show 32 / 4 - 1 - (8 - (i + 1)) = i from by omega]; rfl, ← List.map_append, padTo_j _ (by omega)] at hs2
        refine TL.cons rfl (V1.t (V1.assign' (by (conv => lhs; whnf) <;> rfl)) ?_)
        refine TL.nil ?_
        refine T.region ?_
        refine TL.cons rfl (V1.t (V1.move' (v := .int .i64 (i : Int)) (congrArg (Value.int .i64) (show ((i + 1 : Nat) : Int) - 1 = (i : Int) by omega))) ?_)
        refine TL.cons rfl (V1.t (V1.sub rfl rfl (wrap_i64 _ (by omega) (by omega))) ?_)
        refine TL.cons rfl (V1.t (V1.assign' (by (conv => lhs; whnf) <;> rfl)) ?_)
        refine TL.nil ?_
        exact ⟨(s2, i, Ls2), _, _, (by simp only; omega), (.cons rfl (.cons (congrArg (Value.int .i64) (show ((i : Nat) : Int) - 1 = _ from rfl)) .nil)), (.cons rfl .nil), (by repeat (first | exact Take.nil | apply Take.one (by repeat (first | exact Pick.here | apply Pick.there | apply Pick.far)) | apply Take.seg (by repeat (first | exact PickS.last | exact PickS.one | exact PickS.here | exact PickS.nil | apply PickS.there | apply PickS.far)) | exact Take.last (by repeat (first | exact PickS.last | exact PickS.one | exact PickS.here | exact PickS.nil | apply PickS.there | apply PickS.far)))), ⟨rfl, by simp only; rw [show 8 - i = 8 - (i + 1) + 1 from by omega]; exact hs2, by simp only; omega⟩⟩
      ·
        refine TL.cons rfl (V1.t (V1.move' (by (conv => lhs; whnf) <;> rfl)) ?_)
        refine TL.no rfl ?_
        refine TL.no rfl ?_
        refine TL.cons rfl (V1.t (V1.pick rfl (by (conv => lhs; whnf) <;> rfl)) ?_)
        refine TL.nil ?_
        refine T.cond_f rfl ?_
        refine T.skip ?_
        refine T.region ?_
        refine TL.cons rfl (V1.t (V1.move' (by (conv => lhs; whnf) <;> rfl)) ?_)
        refine TL.cons rfl (V1.t (V1.move' (v := byteV (UInt8.ofNat (8 * n.toNat / 256 ^ i))) (show Value.int .u8 (((n >>> (8 * i)) <<< 3).setWidth 8).toNat = _ from by (have hi0 : i = 0 := (by omega)); subst hi0; exact congrArg (fun z : Nat => Value.int .u8 (z : Int)) (pb_0 n))) ?_)
        refine TL.cons rfl (T1.buildSl1 (os := [.tmp 64]) ty_33 sz_5 zr_5 (by decide) rfl (.cons (by (conv => lhs; whnf) <;> rfl) .nil) rfl (ones rfl) (fun b65 => ?_))
        refine TL.cons rfl (T1.append ty_33 kd_33 sz_5 by_5 zr_5 rfl (by decide) (by decide) rfl rfl hsi (.sl (n := 1) (RdN.at0 (cells := [byteV (UInt8.ofNat (8 * n.toNat / 256 ^ i))]) (by repeat (first | exact Find.here | assumption | apply Find.there | apply Find.far))) rfl) (one_bytes [(UInt8.ofNat (8 * n.toNat / 256 ^ i))]) 1000 (by simp only [List.length_map, List.length_cons, List.length_nil]; rw [padTo_len (by omega)]; unfold zmax at *; omega) (by omega) (by repeat (first | exact PickS.last | exact PickS.one | exact PickS.here | exact PickS.nil | apply PickS.there | apply PickS.far)) (fun s2 Ls2 hs2 => ?_))
        rw [show [byteV (UInt8.ofNat (8 * n.toNat / 256 ^ i))] = [UInt8.ofNat (8 * n.toNat / 256 ^ (32 / 4 - 1 - (8 - (i + 1))))].map byteV from by rw [show 32 / 4 - 1 - (8 - (i + 1)) = i from by omega]; rfl, ← List.map_append, padTo_j _ (by omega)] at hs2
        refine TL.cons rfl (V1.t (V1.assign' (by (conv => lhs; whnf) <;> rfl)) ?_)
        refine TL.nil ?_
        refine T.region ?_
        refine TL.cons rfl (V1.t (V1.move' (v := .int .i64 (i : Int)) (congrArg (Value.int .i64) (show ((i + 1 : Nat) : Int) - 1 = (i : Int) by omega))) ?_)
        refine TL.cons rfl (V1.t (V1.sub rfl rfl (wrap_i64 _ (by omega) (by omega))) ?_)
        refine TL.cons rfl (V1.t (V1.assign' (by (conv => lhs; whnf) <;> rfl)) ?_)
        refine TL.nil ?_
        exact ⟨(s2, i, Ls2), _, _, (by simp only; omega), (.cons rfl (.cons (congrArg (Value.int .i64) (show ((i : Nat) : Int) - 1 = _ from rfl)) .nil)), (.cons rfl .nil), (by repeat (first | exact Take.nil | apply Take.one (by repeat (first | exact Pick.here | apply Pick.there | apply Pick.far)) | apply Take.seg (by repeat (first | exact PickS.last | exact PickS.one | exact PickS.here | exact PickS.nil | apply PickS.there | apply PickS.far)) | exact Take.last (by repeat (first | exact PickS.last | exact PickS.one | exact PickS.here | exact PickS.nil | apply PickS.there | apply PickS.far)))), ⟨rfl, by simp only; rw [show 8 - i = 8 - (i + 1) + 1 from by omega]; exact hs2, by simp only; omega⟩⟩
    ·
      simp only at h5_1
      obtain rfl : y = 0 := by omega
      refine TL.nil ?_
      refine T.cond_f rfl ?_
      refine T.exit ?_
      refine T.seq ?_
      refine T.region ?_
      refine TL.cons rfl (V1.t (V1.move' (by (conv => lhs; whnf) <;> rfl)) ?_)
      refine TL.cons rfl (V1.t (V1.assign' (by (conv => lhs; whnf) <;> rfl)) ?_)
      refine TL.nil ?_
      refine T.ret ?_
      rw [padTo_pad] at hsi
      exact ⟨_, Li ++ (⟨bh, 0, sv :: w64 n :: X, 10⟩ :: G), _, .cons (.tmp (by (conv => lhs; whnf) <;> rfl)) .nil, (by repeat (first | exact Take.nil | apply Take.one (by repeat (first | exact Pick.here | apply Pick.there | apply Pick.far)) | apply Take.seg (by repeat (first | exact PickS.last | exact PickS.one | exact PickS.here | exact PickS.nil | apply PickS.there | apply PickS.far)) | exact Take.last (by repeat (first | exact PickS.last | exact PickS.one | exact PickS.here | exact PickS.nil | apply PickS.there | apply PickS.far)))), Li ++ [⟨bh, 0, sv :: w64 n :: X, 10⟩], by simp only [List.append_assoc, List.cons_append, List.nil_append], Li, hsi, rfl⟩

set_option maxRecDepth 100000 in
set_option maxHeartbeats 4000000 in
theorem padding64_any (w0 : World) (bh : Nat) (sv : Value) (n : BitVec 64) (X : List Value) (hn : n.toNat < 4611686018427387904) : FnX P 34 [.pointer (some ⟨bh, 0, none⟩), .int .i64 128, .int .i64 16] w0 [] [⟨bh, 0, sv :: w64 n :: X, 10⟩] (fun v Y => ∃ Lp, Sl v ((pad 64 n.toNat).map byteV) 1 Lp ∧ Y = Lp ++ [⟨bh, 0, sv :: w64 n :: X, 10⟩]) := by
  refine FnX.of 68 [.tmp 6] Go.Proofs.Try.func34 rfl rfl rfl rfl (fun G => ?_)
  refine T.seq ?_
  refine T.region ?_
  refine TL.cons rfl (V1.t (V1.assign' (by (conv => lhs; whnf) <;> rfl)) ?_)
  refine TL.nil ?_
  refine T.seq ?_
  refine T.region ?_
  refine TL.cons rfl (T1.buildSl1 (os := [.const (.int .u8 128)]) ty_33 sz_5 zr_5 (by decide) rfl (.cons (by (conv => lhs; whnf) <;> rfl) .nil) rfl (ones rfl) (fun b10 => ?_))
  refine TL.cons rfl (V1.t (V1.assign' (by (conv => lhs; whnf) <;> rfl)) ?_)
  refine TL.nil ?_
  refine T.seq ?_
  refine T.block ?_
  refine T.loopL (σ := Value × Nat × List Blk) (l0 := [(0, _), (1, _), (2, _)]) (fun x => [(7, x.1)]) (fun x L => L = x.2.2 ++ (⟨bh, 0, sv :: w64 n :: X, 10⟩ :: G) ∧ Sl x.1 ((padTo 64 n.toNat x.2.1 0).map byteV) 1 x.2.2 ∧ x.2.1 ≤ zmax 64 n.toNat) (fun x => zmax 64 n.toNat - x.2.1) (_, 0, [⟨b10, 0, [byteV 128], 1⟩]) (.cons rfl .nil) (.cons (by (conv => lhs; whnf) <;> rfl) (.cons (by (conv => lhs; whnf) <;> rfl) (.cons (by (conv => lhs; whnf) <;> rfl) .nil))) (by repeat (first | exact Take.nil | apply Take.one (by repeat (first | exact Pick.here | apply Pick.there | apply Pick.far)) | apply Take.seg (by repeat (first | exact PickS.last | exact PickS.one | exact PickS.here | exact PickS.nil | apply PickS.there | apply PickS.far)) | exact Take.last (by repeat (first | exact PickS.last | exact PickS.one | exact PickS.here | exact PickS.nil | apply PickS.there | apply PickS.far)))) (⟨rfl, .inr ⟨b10, 0, 1, 1, 1, rfl, rfl, by omega, by omega, rfl⟩, Nat.zero_le _⟩) ?_
  rintro ⟨si, z, Li⟩ e_ L ⟨rfl, hsi, hz⟩
  simp only at hsi hz
  obtain ⟨sa, sc, rfl⟩ := hsi.form1
  have hpl0 : (padTo 64 n.toNat z 0).length = 1 + z := padTo_len (Nat.zero_le _)
  have hzm := zmax_lt (w := 64) n.toNat (by decide)
  refine T.seq ?_
  refine T.seq ?_
  refine T.region ?_
  refine TL.cons rfl (V1.t (V1.move' (by (conv => lhs; whnf) <;> rfl)) ?_)
  refine TL.cons rfl (V1.t (V1.nilCheck rfl) ?_)
  refine TL.cons rfl (V1.t (V1.fieldAddr fl_80_1 rfl) ?_)
  refine TL.cons rfl (V1.t (V1.load1 one_32 rfl (.own (by repeat (first | exact Find.here | assumption | apply Find.there | apply Find.far)) (by rfl))) ?_)
  refine TL.cons rfl (V1.t (V1.conv ty_32 ty_3 rfl (wrap_i64 _ (by omega) (by omega))) ?_)
  refine TL.cons rfl (V1.t (V1.move' (by (conv => lhs; whnf) <;> rfl)) ?_)
  refine TL.cons rfl (V1.t (V1.lenSl ty_33 rfl) ?_)
  refine TL.cons rfl (V1.t (V1.add rfl rfl (wrap_i64 _ (by omega) (by omega))) ?_)
  refine TL.cons rfl (V1.t (V1.move' (by (conv => lhs; whnf) <;> rfl)) ?_)
  refine TL.cons rfl (V1.t (V1.add rfl rfl (wrap_i64 _ (by omega) (by omega))) ?_)
  refine TL.cons rfl (V1.t (V1.move' (by (conv => lhs; whnf) <;> rfl)) ?_)
  refine TL.cons rfl (V1.t (V1.rem (c := (((n.toNat + (1 + z) + 16) % 128 : Nat) : Int)) rfl rfl (by omega) (by rw [padTo_len (Nat.zero_le _)]; exact tmodN (n.toNat + (1 + z) + 16) 128)) ?_)
  refine TL.cons rfl (T1.neI_split rfl rfl (fun h2_12 => ?_) (fun h2_12 => ?_))
  ·
    have hz2 : z < zmax 64 n.toNat := by
      unfold zmax at hz ⊢
      omega
    refine TL.nil ?_
    refine T.cond_t rfl ?_
    refine T.skip ?_
    refine T.block ?_
    refine T.region ?_
    refine TL.cons rfl (V1.t (V1.move' (by (conv => lhs; whnf) <;> rfl)) ?_)
    refine TL.cons rfl (T1.buildSl1 (os := [.const (.int .u8 0)]) ty_33 sz_5 zr_5 (by decide) rfl (.cons (by (conv => lhs; whnf) <;> rfl) .nil) rfl (ones rfl) (fun b25 => ?_))
    refine TL.cons rfl (T1.append ty_33 kd_33 sz_5 by_5 zr_5 rfl (by decide) (by decide) rfl rfl hsi (.sl (n := 1) (RdN.at0 (cells := [byteV 0]) (by repeat (first | exact Find.here | assumption | apply Find.there | apply Find.far))) rfl) (one_bytes [0]) 1000 (by simp only [List.length_map, List.length_cons, List.length_nil]; rw [padTo_len (by omega)]; unfold zmax at *; omega) (by omega) (by repeat (first | exact PickS.last | exact PickS.one | exact PickS.here | exact PickS.nil | apply PickS.there | apply PickS.far)) (fun s2 Ls2 hs2 => ?_))
    rw [show [byteV 0] = ([0] : List UInt8).map byteV from rfl, ← List.map_append, padTo_z] at hs2
    refine TL.cons rfl (V1.t (V1.assign' (by (conv => lhs; whnf) <;> rfl)) ?_)
    refine TL.nil ?_
    exact ⟨(s2, z + 1, Ls2), _, _, (by simp only; omega), (.cons rfl .nil), (.cons rfl (.cons rfl (.cons rfl .nil))), (by repeat (first | exact Take.nil | apply Take.one (by repeat (first | exact Pick.here | apply Pick.there | apply Pick.far)) | apply Take.seg (by repeat (first | exact PickS.last | exact PickS.one | exact PickS.here | exact PickS.nil | apply PickS.there | apply PickS.far)) | exact Take.last (by repeat (first | exact PickS.last | exact PickS.one | exact PickS.here | exact PickS.nil | apply PickS.there | apply PickS.far)))), ⟨rfl, hs2, by simp only; omega⟩⟩
  ·
    have hz2 : z = zmax 64 n.toNat := by
      unfold zmax at hz ⊢
      omega
    subst hz2
    refine TL.nil ?_
    refine T.cond_f rfl ?_
    refine T.exit ?_
    refine T.seq ?_
    refine T.seq ?_
    refine T.region ?_
    refine TL.cons rfl (V1.t (V1.move' (by (conv => lhs; whnf) <;> rfl)) ?_)
    refine TL.cons rfl (V1.t (V1.sub rfl rfl (wrap_i64 _ (by omega) (by omega))) ?_)
    refine TL.cons rfl (V1.t (V1.assign' (by (conv => lhs; whnf) <;> rfl)) ?_)
    refine TL.nil ?_
    refine T.block ?_
    refine T.loopL (σ := Value × Nat × List Blk) (l0 := [(0, _)]) (fun x => [(7, x.1), (8, .int .i64 ((x.2.1 : Int) - 1))]) (fun x L => L = x.2.2 ++ (⟨bh, 0, sv :: w64 n :: X, 10⟩ :: G) ∧ Sl x.1 ((padTo 64 n.toNat (zmax 64 n.toNat) (16 - x.2.1)).map byteV) 1 x.2.2 ∧ x.2.1 ≤ 16) (fun x => x.2.1) (_, 16, Li) (.cons rfl (.cons rfl .nil)) (.cons (by (conv => lhs; whnf) <;> rfl) .nil) (by repeat (first | exact Take.nil | apply Take.one (by repeat (first | exact Pick.here | apply Pick.there | apply Pick.far)) | apply Take.seg (by repeat (first | exact PickS.last | exact PickS.one | exact PickS.here | exact PickS.nil | apply PickS.there | apply PickS.far)) | exact Take.last (by repeat (first | exact PickS.last | exact PickS.one | exact PickS.here | exact PickS.nil | apply PickS.there | apply PickS.far)))) (⟨rfl, (by simp only [Nat.sub_self]; exact hsi), Nat.le_refl _⟩) ?_
    rintro ⟨si, y, Li⟩ e_ L ⟨rfl, hsi, hy⟩
    simp only at hsi hy
    obtain ⟨sa, sc, rfl⟩ := hsi.form1
    refine T.seq ?_
    refine T.seq ?_
    refine T.region ?_
    refine TL.cons rfl (V1.t (V1.move' (by (conv => lhs; whnf) <;> rfl)) ?_)
    refine TL.cons rfl (T1.geI_split rfl rfl (fun h5_1 => ?_) (fun h5_1 => ?_))
    ·
      simp only at h5_1
      obtain ⟨i, rfl⟩ : ∃ i, y = i + 1 := ⟨y - 1, by omega⟩
      refine TL.nil ?_
      refine T.cond_t rfl ?_
      refine T.skip ?_
      refine T.seq ?_
      refine T.block ?_
      refine T.seq ?_
      refine T.region ?_
      refine TL.cons rfl (V1.t (V1.assign' (by (conv => lhs; whnf) <;> rfl)) ?_)
      refine TL.nil ?_
      refine T.seq ?_
      refine T.seq ?_
      refine T.region ?_
      refine TL.cons rfl (V1.t (V1.move' (v := .int .i64 (i : Int)) (congrArg (Value.int .i64) (show ((i + 1 : Nat) : Int) - 1 = (i : Int) by omega))) ?_)
      refine TL.cons rfl (T1.ltI_split rfl rfl (fun h8_1 => ?_) (fun h8_1 => ?_))
      ·
        refine TL.nil ?_
        refine T.cond_t rfl ?_
        refine T.region ?_
        refine TL.cons rfl (V1.t (V1.move' (by (conv => lhs; whnf) <;> rfl)) ?_)
        refine TL.cons rfl (V1.t (V1.nilCheck rfl) ?_)
        refine TL.cons rfl (V1.t (V1.fieldAddr fl_80_1 rfl) ?_)
        refine TL.cons rfl (V1.t (V1.load1 one_32 rfl (.own (by repeat (first | exact Find.here | assumption | apply Find.there | apply Find.far)) (by rfl))) ?_)
        refine TL.cons rfl (V1.t (V1.move' (v := .int .i64 (i : Int)) (congrArg (Value.int .i64) (show ((i + 1 : Nat) : Int) - 1 = (i : Int) by omega))) ?_)
        refine TL.cons rfl (V1.t (V1.mul rfl rfl (wrap_i64 _ (by omega) (by omega))) ?_)
        refine TL.cons rfl (V1.t (V1.shrW (k := 8 * i) u64U rfl (congrArg (Value.int .i64) (show (8 : Int) * (i : Int) = ((8 * i : Nat) : Int) by omega))) ?_)
        refine TL.cons rfl (V1.t (V1.shlW (k := 3) u64U rfl rfl) ?_)
        refine TL.cons rfl (V1.t (V1.convW 8 u8U ty_32 ty_5 rfl) ?_)
        refine TL.cons rfl (V1.t (V1.assign' (by (conv => lhs; whnf) <;> rfl)) ?_)
        refine TL.nil ?_
        refine T.seq ?_
        refine T.seq ?_
        refine T.live (l := [(0, _), (7, _), (8, _), (9, _)]) (.cons (by (conv => lhs; whnf) <;> rfl) (.cons (by (conv => lhs; whnf) <;> rfl) (.cons (by (conv => lhs; whnf) <;> rfl) (.cons (by (conv => lhs; whnf) <;> rfl) .nil)))) (fun e_ => ?_)
        refine T.region ?_
        refine TL.cons rfl (V1.t (V1.move' (v := .int .i64 (i : Int)) (congrArg (Value.int .i64) (show ((i + 1 : Nat) : Int) - 1 = (i : Int) by omega))) ?_)
        refine TL.cons rfl (T1.gtI_split rfl rfl (fun h10_1 => ?_) (fun h10_1 => ?_))
        ·
          refine TL.cons rfl (V1.t (V1.move' (by (conv => lhs; whnf) <;> rfl)) ?_)
          refine TL.cons rfl (V1.t (V1.move' (v := .int .i64 (i : Int)) (congrArg (Value.int .i64) (show ((i + 1 : Nat) : Int) - 1 = (i : Int) by omega))) ?_)
          refine TL.cons rfl (V1.t (V1.ltI rfl rfl (decide_eq_true (by omega))) ?_)
          refine TL.cons rfl (V1.t (V1.pick rfl (by (conv => lhs; whnf) <;> rfl)) ?_)
          refine TL.nil ?_
          refine T.cond_t rfl ?_
          refine T.region ?_
          refine TL.cons rfl (V1.t (V1.move' (by (conv => lhs; whnf) <;> rfl)) ?_)
          refine TL.cons rfl (V1.t (V1.move' (by (conv => lhs; whnf) <;> rfl)) ?_)
          refine TL.cons rfl (V1.t (V1.nilCheck rfl) ?_)
          refine TL.cons rfl (V1.t (V1.fieldAddr fl_80_1 rfl) ?_)
          refine TL.cons rfl (V1.t (V1.load1 one_32 rfl (.own (by repeat (first | exact Find.here | assumption | apply Find.there | apply Find.far)) (by rfl))) ?_)
          refine TL.cons rfl (V1.t (V1.move' (v := .int .i64 (i : Int)) (congrArg (Value.int .i64) (show ((i + 1 : Nat) : Int) - 1 = (i : Int) by omega))) ?_)
          refine TL.cons rfl (V1.t (V1.mul rfl rfl (wrap_i64 _ (by omega) (by omega))) ?_)
          refine TL.cons rfl (V1.t (V1.sub rfl rfl (wrap_i64 _ (by omega) (by omega))) ?_)
          refine TL.cons rfl (V1.t (V1.shrW (k := 8 * i - 8) u64U rfl (congrArg (Value.int .i64) (show (8 : Int) * (i : Int) - 8 = ((8 * i - 8 : Nat) : Int) by omega))) ?_)
          refine TL.cons rfl (V1.t (V1.andW (b := 255#64) u64U rfl rfl) ?_)
          refine TL.cons rfl (V1.t (V1.shrW (k := 5) u64U rfl rfl) ?_)
          refine TL.cons rfl (V1.t (V1.convW 8 u8U ty_32 ty_5 rfl) ?_)
          refine TL.cons rfl (V1.t (V1.orW u8U rfl rfl) ?_)
          refine TL.cons rfl (V1.t (V1.assign' (by (conv => lhs; whnf) <;> rfl)) ?_)
          refine TL.nil ?_
          refine T.live (l := [(0, _), (7, _), (8, _), (9, _)]) (.cons (by (conv => lhs; whnf) <;> rfl) (.cons (by (conv => lhs; whnf) <;> rfl) (.cons (by (conv => lhs; whnf) <;> rfl) (.cons (by (conv => lhs; whnf) <;> rfl) .nil)))) (fun e_ => ?_)
          refine T.region ?_
          refine TL.cons rfl (V1.t (V1.move' (by (conv => lhs; whnf) <;> rfl)) ?_)
          refine TL.cons rfl (V1.t (V1.move' (v := byteV (UInt8.ofNat (8 * n.toNat / 256 ^ i))) (congrArg (fun z : Nat => Value.int .u8 (z : Int)) (pb_mid n (by omega)))) ?_)
          refine TL.cons rfl (T1.buildSl1 (os := [.tmp 64]) ty_33 sz_5 zr_5 (by decide) rfl (.cons (by (conv => lhs; whnf) <;> rfl) .nil) rfl (ones rfl) (fun b65 => ?_))
          refine TL.cons rfl (T1.append ty_33 kd_33 sz_5 by_5 zr_5 rfl (by decide) (by decide) rfl rfl hsi (.sl (n := 1) (RdN.at0 (cells := [byteV (UInt8.ofNat (8 * n.toNat / 256 ^ i))]) (by repeat (first | exact Find.here | assumption | apply Find.there | apply Find.far))) rfl) (one_bytes [(UInt8.ofNat (8 * n.toNat / 256 ^ i))]) 1000 (by simp only [List.length_map, List.length_cons, List.length_nil]; rw [padTo_len (by omega)]; unfold zmax at *; omega) (by omega) (by repeat (first | exact PickS.last | exact PickS.one | exact PickS.here | exact PickS.nil | apply PickS.there | apply PickS.far)) (fun s2 Ls2 hs2 => ?_))
          rw [show [byteV (UInt8.ofNat (8 * n.toNat / 256 ^ i))] = [UInt8.ofNat (8 * n.toNat / 256 ^ (64 / 4 - 1 - (16 - (i + 1))))].map byteV from by rw [show 64 / 4 - 1 - (16 - (i + 1)) = i from by omega]; rfl, ← List.map_append, padTo_j _ (by omega)] at hs2
          refine TL.cons rfl (V1.t (V1.assign' (by (conv => lhs; whnf) <;> rfl)) ?_)
          refine TL.nil ?_
          refine T.region ?_
          refine TL.cons rfl (V1.t (V1.move' (v := .int .i64 (i : Int)) (congrArg (Value.int .i64) (show ((i + 1 : Nat) : Int) - 1 = (i : Int) by omega))) ?_)
          refine TL.cons rfl (V1.t (V1.sub rfl rfl (wrap_i64 _ (by omega) (by omega))) ?_)
          refine TL.cons rfl (V1.t (V1.assign' (by (conv => lhs; whnf) <;> rfl)) ?_)
          refine TL.nil ?_
          exact ⟨(s2, i, Ls2), _, _, (by simp only; omega), (.cons rfl (.cons (congrArg (Value.int .i64) (show ((i : Nat) : Int) - 1 = _ from rfl)) .nil)), (.cons rfl .nil), (by repeat (first | exact Take.nil | apply Take.one (by repeat (first | exact Pick.here | apply Pick.there | apply Pick.far)) | apply Take.seg (by repeat (first | exact PickS.last | exact PickS.one | exact PickS.here | exact PickS.nil | apply PickS.there | apply PickS.far)) | exact Take.last (by repeat (first | exact PickS.last | exact PickS.one | exact PickS.here | exact PickS.nil | apply PickS.there | apply PickS.far)))), ⟨rfl, by simp only; rw [show 16 - i = 16 - (i + 1) + 1 from by omega]; exact hs2, by simp only; omega⟩⟩
        ·
          refine TL.cons rfl (V1.t (V1.move' (by (conv => lhs; whnf) <;> rfl)) ?_)
          refine TL.no rfl ?_
          refine TL.no rfl ?_
          refine TL.cons rfl (V1.t (V1.pick rfl (by (conv => lhs; whnf) <;> rfl)) ?_)
          refine TL.nil ?_
          refine T.cond_f rfl ?_
          refine T.skip ?_
          refine T.region ?_
          refine TL.cons rfl (V1.t (V1.move' (by (conv => lhs; whnf) <;> rfl)) ?_)
          refine TL.cons rfl (V1.t (V1.move' (v := byteV (UInt8.ofNat (8 * n.toNat / 256 ^ i))) (show Value.int .u8 (((n >>> (8 * i)) <<< 3).setWidth 8).toNat = _ from by (have hi0 : i = 0 := (by omega)); subst hi0; exact congrArg (fun z : Nat => Value.int .u8 (z : Int)) (pb_0 n))) ?_)
          refine TL.cons rfl (T1.buildSl1 (os := [.tmp 64]) ty_33 sz_5 zr_5 (by decide) rfl (.cons (by (conv => lhs; whnf) <;> rfl) .nil) rfl (ones rfl) (fun b65 => ?_))
          refine TL.cons rfl (T1.append ty_33 kd_33 sz_5 by_5 zr_5 rfl (by decide) (by decide) rfl rfl hsi (.sl (n := 1) (RdN.at0 (cells := [byteV (UInt8.ofNat (8 * n.toNat / 256 ^ i))]) (by repeat (first | exact Find.here | assumption | apply Find.there | apply Find.far))) rfl) (one_bytes [(UInt8.ofNat (8 * n.toNat / 256 ^ i))]) 1000 (by simp only [List.length_map, List.length_cons, List.length_nil]; rw [padTo_len (by omega)]; unfold zmax at *; omega) (by omega) (by repeat (first | exact PickS.last | exact PickS.one | exact PickS.here | exact PickS.nil | apply PickS.there | apply PickS.far)) (fun s2 Ls2 hs2 => ?_))
          rw [show [byteV (UInt8.ofNat (8 * n.toNat / 256 ^ i))] = [UInt8.ofNat (8 * n.toNat / 256 ^ (64 / 4 - 1 - (16 - (i + 1))))].map byteV from by rw [show 64 / 4 - 1 - (16 - (i + 1)) = i from by omega]; rfl, ← List.map_append, padTo_j _ (by omega)] at hs2
          refine TL.cons rfl (V1.t (V1.assign' (by (conv => lhs; whnf) <;> rfl)) ?_)
          refine TL.nil ?_
          refine T.region ?_
          refine TL.cons rfl (V1.t (V1.move' (v := .int .i64 (i : Int)) (congrArg (Value.int .i64) (show ((i + 1 : Nat) : Int) - 1 = (i : Int) by omega))) ?_)
          refine TL.cons rfl (V1.t (V1.sub rfl rfl (wrap_i64 _ (by omega) (by omega))) ?_)
          refine TL.cons rfl (V1.t (V1.assign' (by (conv => lhs; whnf) <;> rfl)) ?_)
          refine TL.nil ?_
          exact ⟨(s2, i, Ls2), _, _, (by simp only; omega), (.cons rfl (.cons (congrArg (Value.int .i64) (show ((i : Nat) : Int) - 1 = _ from rfl)) .nil)), (.cons rfl .nil), (by repeat (first | exact Take.nil | apply Take.one (by repeat (first | exact Pick.here | apply Pick.there | apply Pick.far)) | apply Take.seg (by repeat (first | exact PickS.last | exact PickS.one | exact PickS.here | exact PickS.nil | apply PickS.there | apply PickS.far)) | exact Take.last (by repeat (first | exact PickS.last | exact PickS.one | exact PickS.here | exact PickS.nil | apply PickS.there | apply PickS.far)))), ⟨rfl, by simp only; rw [show 16 - i = 16 - (i + 1) + 1 from by omega]; exact hs2, by simp only; omega⟩⟩
      ·
        refine TL.nil ?_
        refine T.cond_f rfl ?_
        refine T.skip ?_
        refine T.seq ?_
        refine T.seq ?_
        refine T.region ?_
        refine TL.cons rfl (V1.t (V1.move' (v := .int .i64 (i : Int)) (congrArg (Value.int .i64) (show ((i + 1 : Nat) : Int) - 1 = (i : Int) by omega))) ?_)
        refine TL.cons rfl (T1.gtI_split rfl rfl (fun h10_1 => ?_) (fun h10_1 => ?_))
        ·
          refine TL.cons rfl (V1.t (V1.move' (by (conv => lhs; whnf) <;> rfl)) ?_)
          refine TL.cons rfl (V1.t (V1.move' (v := .int .i64 (i : Int)) (congrArg (Value.int .i64) (show ((i + 1 : Nat) : Int) - 1 = (i : Int) by omega))) ?_)
          refine TL.cons rfl (V1.t (V1.ltI rfl rfl (decide_eq_false (by omega))) ?_)
          refine TL.cons rfl (V1.t (V1.pick rfl (by (conv => lhs; whnf) <;> rfl)) ?_)
          refine TL.nil ?_
          refine T.cond_f rfl ?_
          refine T.skip ?_
          refine T.region ?_
          refine TL.cons rfl (V1.t (V1.move' (by (conv => lhs; whnf) <;> rfl)) ?_)
          refine TL.cons rfl (V1.t (V1.move' (v := byteV (UInt8.ofNat (8 * n.toNat / 256 ^ i))) (show Value.int .u8 0 = _ from by rw [pb_hi (by omega) n.isLt]; rfl)) ?_)
          refine TL.cons rfl (T1.buildSl1 (os := [.tmp 64]) ty_33 sz_5 zr_5 (by decide) rfl (.cons (by (conv => lhs; whnf) <;> rfl) .nil) rfl (ones rfl) (fun b65 => ?_))
          refine TL.cons rfl (T1.append ty_33 kd_33 sz_5 by_5 zr_5 rfl (by decide) (by decide) rfl rfl hsi (.sl (n := 1) (RdN.at0 (cells := [byteV (UInt8.ofNat (8 * n.toNat / 256 ^ i))]) (by repeat (first | exact Find.here | assumption | apply Find.there | apply Find.far))) rfl) (one_bytes [(UInt8.ofNat (8 * n.toNat / 256 ^ i))]) 1000 (by simp only [List.length_map, List.length_cons, List.length_nil]; rw [padTo_len (by omega)]; unfold zmax at *; omega) (by omega) (by repeat (first | exact PickS.last | exact PickS.one | exact PickS.here | exact PickS.nil | apply PickS.there | apply PickS.far)) (fun s2 Ls2 hs2 => ?_))
          rw [show [byteV (UInt8.ofNat (8 * n.toNat / 256 ^ i))] = [UInt8.ofNat (8 * n.toNat / 256 ^ (64 / 4 - 1 - (16 - (i + 1))))].map byteV from by rw [show 64 / 4 - 1 - (16 - (i + 1)) = i from by omega]; rfl, ← List.map_append, padTo_j _ (by omega)] at hs2
          refine TL.cons rfl (V1.t (V1.assign' (by (conv => lhs; whnf) <;> rfl)) ?_)
          refine TL.nil ?_
          refine T.live (l := [(0, _), (7, _), (8, _)]) (.cons (by (conv => lhs; whnf) <;> rfl) (.cons (by (conv => lhs; whnf) <;> rfl) (.cons (by (conv => lhs; whnf) <;> rfl) .nil))) (fun e_ => ?_)
          refine T.region ?_
          refine TL.cons rfl (V1.t (V1.move' (v := .int .i64 (i : Int)) (congrArg (Value.int .i64) (show ((i + 1 : Nat) : Int) - 1 = (i : Int) by omega))) ?_)
          refine TL.cons rfl (V1.t (V1.sub rfl rfl (wrap_i64 _ (by omega) (by omega))) ?_)
          refine TL.cons rfl (V1.t (V1.assign' (by (conv => lhs; whnf) <;> rfl)) ?_)
          refine TL.nil ?_
          exact ⟨(s2, i, Ls2), _, _, (by simp only; omega), (.cons rfl (.cons (congrArg (Value.int .i64) (show ((i : Nat) : Int) - 1 = _ from rfl)) .nil)), (.cons rfl .nil), (by repeat (first | exact Take.nil | apply Take.one (by repeat (first | exact Pick.here | apply Pick.there | apply Pick.far)) | apply Take.seg (by repeat (first | exact PickS.last | exact PickS.one | exact PickS.here | exact PickS.nil | apply PickS.there | apply PickS.far)) | exact Take.last (by repeat (first | exact PickS.last | exact PickS.one | exact PickS.here | exact PickS.nil | apply PickS.there | apply PickS.far)))), ⟨rfl, by simp only; rw [show 16 - i = 16 - (i + 1) + 1 from by omega]; exact hs2, by simp only; omega⟩⟩
        ·
          refine TL.cons rfl (V1.t (V1.move' (by (conv => lhs; whnf) <;> rfl)) ?_)
          refine TL.no rfl ?_
          refine TL.no rfl ?_
          refine TL.cons rfl (V1.t (V1.pick rfl (by (conv => lhs; whnf) <;> rfl)) ?_)
          refine TL.nil ?_
          refine T.cond_f rfl ?_
          refine T.skip ?_
          refine T.region ?_
          refine TL.cons rfl (V1.t (V1.move' (by (conv => lhs; whnf) <;> rfl)) ?_)
          refine TL.cons rfl (V1.t (V1.move' (v := byteV (UInt8.ofNat (8 * n.toNat / 256 ^ i))) (show Value.int .u8 0 = _ from by rw [pb_hi (by omega) n.isLt]; rfl)) ?_)
          refine TL.cons rfl (T1.buildSl1 (os := [.tmp 64]) ty_33 sz_5 zr_5 (by decide) rfl (.cons (by (conv => lhs; whnf) <;> rfl) .nil) rfl (ones rfl) (fun b65 => ?_))
          refine TL.cons rfl (T1.append ty_33 kd_33 sz_5 by_5 zr_5 rfl (by decide) (by decide) rfl rfl hsi (.sl (n := 1) (RdN.at0 (cells := [byteV (UInt8.ofNat (8 * n.toNat / 256 ^ i))]) (by repeat (first | exact Find.here | assumption | apply Find.there | apply Find.far))) rfl) (one_bytes [(UInt8.ofNat (8 * n.toNat / 256 ^ i))]) 1000 (by simp only [List.length_map, List.length_cons, List.length_nil]; rw [padTo_len (by omega)]; unfold zmax at *; omega) (by omega) (by repeat (first | exact PickS.last | exact PickS.one | exact PickS.here | exact PickS.nil | apply PickS.there | apply PickS.far)) (fun s2 Ls2 hs2 => ?_))
          rw [show [byteV (UInt8.ofNat (8 * n.toNat / 256 ^ i))] = [UInt8.ofNat (8 * n.toNat / 256 ^ (64 / 4 - 1 - (16 - (i + 1))))].map byteV from by rw [show 64 / 4 - 1 - (16 - (i + 1)) = i from by omega]; rfl, ← List.map_append, padTo_j _ (by omega)] at hs2
          refine TL.cons rfl (V1.t (V1.assign' (by (conv => lhs; whnf) <;> rfl)) ?_)
          refine TL.nil ?_
          refine T.live (l := [(0, _), (7, _), (8, _)]) (.cons (by (conv => lhs; whnf) <;> rfl) (.cons (by (conv => lhs; whnf) <;> rfl) (.cons (by (conv => lhs; whnf) <;> rfl) .nil))) (fun e_ => ?_)
          refine T.region ?_
          refine TL.cons rfl (V1.t (V1.move' (v := .int .i64 (i : Int)) (congrArg (Value.int .i64) (show ((i + 1 : Nat) : Int) - 1 = (i : Int) by omega))) ?_)
          refine TL.cons rfl (V1.t (V1.sub rfl rfl (wrap_i64 _ (by omega) (by omega))) ?_)
          refine TL.cons rfl (V1.t (V1.assign' (by (conv => lhs; whnf) <;> rfl)) ?_)
          refine TL.nil ?_
          exact ⟨(s2, i, Ls2), _, _, (by simp only; omega), (.cons rfl (.cons (congrArg (Value.int .i64) (show ((i : Nat) : Int) - 1 = _ from rfl)) .nil)), (.cons rfl .nil), (by repeat (first | exact Take.nil | apply Take.one (by repeat (first | exact Pick.here | apply Pick.there | apply Pick.far)) | apply Take.seg (by repeat (first | exact PickS.last | exact PickS.one | exact PickS.here | exact PickS.nil | apply PickS.there | apply PickS.far)) | exact Take.last (by repeat (first | exact PickS.last | exact PickS.one | exact PickS.here | exact PickS.nil | apply PickS.there | apply PickS.far)))), ⟨rfl, by simp only; rw [show 16 - i = 16 - (i + 1) + 1 from by omega]; exact hs2, by simp only; omega⟩⟩
    ·
      simp only at h5_1
      obtain rfl : y = 0 := by omega
      refine TL.nil ?_
      refine T.cond_f rfl ?_
      refine T.exit ?_
      refine T.seq ?_
      refine T.region ?_
      refine TL.cons rfl (V1.t (V1.move' (by (conv => lhs; whnf) <;> rfl)) ?_)
      refine TL.cons rfl (V1.t (V1.assign' (by (conv => lhs; whnf) <;> rfl)) ?_)
      refine TL.nil ?_
      refine T.ret ?_
      rw [padTo_pad] at hsi
      exact ⟨_, Li ++ (⟨bh, 0, sv :: w64 n :: X, 10⟩ :: G), _, .cons (.tmp (by (conv => lhs; whnf) <;> rfl)) .nil, (by repeat (first | exact Take.nil | apply Take.one (by repeat (first | exact Pick.here | apply Pick.there | apply Pick.far)) | apply Take.seg (by repeat (first | exact PickS.last | exact PickS.one | exact PickS.here | exact PickS.nil | apply PickS.there | apply PickS.far)) | exact Take.last (by repeat (first | exact PickS.last | exact PickS.one | exact PickS.here | exact PickS.nil | apply PickS.there | apply PickS.far)))), Li ++ [⟨bh, 0, sv :: w64 n :: X, 10⟩], by simp only [List.append_assoc, List.cons_append, List.nil_append], Li, hsi, rfl⟩

end Go.Proofs.Ytmolpgnekcfimaa.S
