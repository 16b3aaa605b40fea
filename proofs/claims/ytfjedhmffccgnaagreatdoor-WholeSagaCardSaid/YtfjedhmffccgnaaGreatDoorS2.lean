/- Bytes are taken in; what ends a text. -/
import Derived.Test.YtfjedhmffccgnaaGreatDoorS1
import Derived.Test.YtfjedhmffccgnaaGreatDoorOps9
namespace Go.Proofs.YtfjedhmffccgnaaGreatDoor.S
set_option maxRecDepth 100000
set_option maxHeartbeats 4000000
open Go.RowKit
open Sh
theorem Sl.form1 {s : Value} {l : List UInt8} {Ls : List Blk} (h : Sl s (l.map byteV) 1 Ls) : ∃ a c, s = .slice a l.length c := by
 rcases h with ⟨rfl, h, _⟩ | ⟨b, off, len, cap, size, rfl, h1, h2, h3, rfl⟩
 ·
  obtain rfl : l = [] := by simpa using h
  exact ⟨_, _, rfl⟩
 ·
  rw [List.length_map, Nat.mul_one] at h1
  subst h1
  exact ⟨_, _, rfl⟩
theorem Sl.own1 {a : Option Addr} {n c : Nat} {l : List UInt8} {Ls : List Blk} (h : Sl (.slice a n c) (l.map byteV) 1 Ls) (hn : 0 < n) : ∃ b off size, a = some ⟨b, off, none⟩ ∧ l.length = n ∧ n ≤ c ∧ off + c * 1 ≤ size ∧ Ls = [⟨b, off, l.map byteV, size⟩] := by
 rcases h with ⟨h, _, _⟩ | ⟨b, off, len, cap, size, h0, h1, h2, h3, rfl⟩
 · cases h; omega
 ·
  cases h0
  rw [List.length_map, Nat.mul_one] at h1
  exact ⟨b, off, size, rfl, h1, h2, h3, rfl⟩
def BlockC {w : Nat} (T : Sp w) (wv : BitVec w → Value) (fid : Nat) : Prop := ∀ (w0 : World) (bh bp op size cap : Nat) (s : Value) (n : BitVec 64) (st : R8 w) (l : List UInt8), 2 * w ≤ l.length → 2 * w ≤ cap →
  FnX P fid [.pointer (some ⟨bh, 0, none⟩), .slice (some ⟨bp, op, none⟩) (2 * w) cap] w0 [] [⟨bh, 0, s :: w64 n :: (stL st).map wv, 10⟩, ⟨bp, op, l.map byteV, size⟩] (fun _ Y => Y = [⟨bh, 0, s :: w64 n :: (stL (blockS T st (l.take (2 * w)))).map wv, 10⟩, ⟨bp, op, l.map byteV, size⟩])
theorem blockC256 : BlockC T256 w32 111 := fun w0 bh bp op size cap s n st l hl _ => block256_any w0 bh bp op size cap s n st l hl
theorem feed_any {w : Nat} (Tp : Sp w) (wv : BitVec w → Value) (fid : Nat) (hfid : Has P fid) (hw : 0 < w) (hw64 : w ≤ 64) (hblk : BlockC Tp wv fid) (w0 : World) (bh : Nat) (s pv : Value) (n : BitVec 64) (st : R8 w) (r p : List UInt8) (Lr Ps : List Blk) (hs : Sl s (r.map byteV) 1 Lr) (hp : PartR w0 Ps pv p) (hr : r.length < 2 * w) (hpl : p.length ≤ 200000000000000) : FnX P 110 [.pointer (some ⟨bh, 0, none⟩), .int .i64 ((2 * w : Nat) : Int), pv, .func (.func fid) #[.pointer (some ⟨bh, 0, none⟩)] #[]] w0 [] (⟨bh, 0, s :: w64 (n) :: (stL st).map wv, 10⟩ :: (Lr ++ Ps)) (fun _ Y => ∃ s' Lr', Sl s' ((absorb Tp st (r ++ p)).2.map byteV) 1 Lr' ∧ Y = ⟨bh, 0, s' :: w64 (n + BitVec.ofInt 64 (p.length : Int)) :: (stL (absorb Tp st (r ++ p)).1).map wv, 10⟩ :: (Lr' ++ Ps)) := by
 obtain ⟨pa, pc, rfl⟩ := hp.form
 refine FnX.of 51 [] Go.Proofs.Tryz.func110 rfl rfl rfl rfl (fun G => ?_)
 rw [List.cons_append, List.append_assoc]
 refine zs ?_
 refine z0 (V1.nilCheck rfl) ?_
 refine z0 (V1.fieldAddr fl_171_1 rfl) ?_
 refine zq (V1.load1 one_79 rfl (.own z_A zr)) ?_
 refine z0 (V1.lenSl ty_44 rfl) ?_
 refine z0 (V1.convI 64 u64U ty_3 ty_79 rfl) ?_
 refine z0 (V1.addW u64U rfl rfl) ?_
 refine z0 (V1.nilCheck rfl) ?_
 refine z0 (V1.fieldAddr fl_171_1 rfl) ?_
 refine zc (T1.store1 rfl rfl sz_79 rfl z_H (Nat.zero_le _) z_K ?_)
 refine zs ?_
 refine z0 (V1.nilCheck rfl) ?_
 refine z0 (V1.fieldAddr fl_171_0 rfl) ?_
 refine zq (V1.load1 one_44 rfl (.own z_A zr)) ?_
 refine zc (T1.append ty_44 kd_44 sz_5 by_5 zr_5 rfl ze ze rfl rfl hs (hp.src _ rfl rfl _ (by intro B hB; simp only [List.mem_cons, List.mem_append]; simp [hB])) (one_bytes _) (r.length + p.length) (by simp only [List.length_map]; omega) zw z_E (fun s1 Ls1 hs1 => ?_))
 rw [← List.map_append] at hs1
 refine z0 (V1.nilCheck rfl) ?_
 refine z0 (V1.fieldAddr fl_171_0 rfl) ?_
 refine zc (T1.store1 rfl rfl sz_44 hs1.one z_H (Nat.zero_le _) z_K ?_)
 refine TL.nil ?_
 refine T.block (T.loopL (σ := Value × List UInt8 × R8 w × List Blk) (l0 := [(0, _), (1, _), (3, _)]) (fun x => []) (fun x L => L = ⟨bh, 0, x.1 :: w64 (n + BitVec.ofInt 64 (p.length : Int)) :: (stL x.2.2.1).map wv, 10⟩ :: (x.2.2.2 ++ (Ps ++ G)) ∧ Sl x.1 (x.2.1.map byteV) 1 x.2.2.2 ∧ absorb Tp x.2.2.1 x.2.1 = absorb Tp st (r ++ p)) (fun x => x.2.1.length) (s1, r ++ p, st, Ls1) .nil zT z_B (⟨rfl, hs1, rfl⟩) ?_)
 rintro ⟨si, ri, sti, Li⟩ e_ L ⟨rfl, hsi, hab⟩
 simp only at hsi hab
 obtain ⟨sa, sc, rfl⟩ := hsi.form1
 refine zs ?_
 refine z0 (V1.nilCheck rfl) ?_
 refine z0 (V1.fieldAddr fl_171_0 rfl) ?_
 refine z0 (V1.load1 one_44 rfl (.own z_A zr)) ?_
 refine zq (V1.lenSl ty_44 rfl) ?_
 refine zc (T1.geI_split rfl rfl (fun h2_6 => ?_) (fun h2_6 => ?_))
 ·
  obtain ⟨bb, off, size, rfl, _, hcap, hsz, rfl⟩ := hsi.own1 zw
  refine TL.nil ?_
  refine T.cond_t rfl (zs ?_)
  refine z0 (V1.nilCheck rfl) ?_
  refine z0 (V1.fieldAddr fl_171_0 rfl) ?_
  refine zq (V1.load1 one_44 rfl (.own z_A zr)) ?_
  refine z0 (V1.sliceTo (2 * w) ty_44 sz_5 rfl rfl rfl zw zw) ?_
  refine zc (T1.callGX (X := [⟨bh, 0, .slice (some ⟨bb, off, none⟩) ri.length sc :: w64 (n + BitVec.ofInt 64 (p.length : Int)) :: (stL sti).map wv, 10⟩, ⟨bb, off, ri.map byteV, size⟩]) rfl hfid rfl (hblk _ _ _ _ _ _ _ _ _ _ zw zw) z_B (fun v Y hY => ?_))
  subst hY
  dsimp only [List.cons_append, List.nil_append]
  refine TL.nil ?_
  refine T.live (l := [(0, _), (1, _), (3, _)]) zT (fun e_ => ?_)
  refine zs ?_
  refine z0 (V1.nilCheck rfl) ?_
  refine z0 (V1.fieldAddr fl_171_0 rfl) ?_
  refine zq (V1.load1 one_44 rfl (.own z_A zr)) ?_
  refine zc (T1.sliceFwd (cells := ri.map byteV) (Ls := [⟨bb, off, ri.map byteV, size⟩]) ty_44 sz_5 rfl (.inr ⟨bb, off, ri.length, sc, size, rfl, by rw [List.length_map, Nat.mul_one], hcap, hsz, rfl⟩) z_E (2 * w) rfl (by rw [List.length_map]; rfl) (by rw [List.length_map]; omega) (fun s2 Ls2 hs2 => ?_))
  rw [← List.map_drop] at hs2
  refine z0 (V1.nilCheck rfl) ?_
  refine z0 (V1.fieldAddr fl_171_0 rfl) ?_
  refine zc (T1.store1 rfl rfl sz_44 hs2.one z_H (Nat.zero_le _) z_K ?_)
  refine TL.nil ?_
  exact ⟨(s2, ri.drop (2 * w), blockS Tp sti (ri.take (2 * w)), Ls2), _, _, (by simp only [List.length_drop]; omega), .nil, (.cons rfl (.cons rfl (.cons rfl .nil))), z_B, ⟨rfl, hs2, by rw [← absorb_block Tp hw (by omega)]; exact hab⟩⟩
 ·
  rw [absorb_small Tp (by omega)] at hab
  refine TL.nil ?_
  refine T.cond_f rfl (T.exit ?_)
  exact ⟨_, ⟨bh, 0, .slice sa ri.length sc :: w64 (n + BitVec.ofInt 64 (p.length : Int)) :: (stL sti).map wv, 10⟩ :: (Li ++ (Ps ++ G)), _, .nil, z_B, ⟨bh, 0, .slice sa ri.length sc :: w64 (n + BitVec.ofInt 64 (p.length : Int)) :: (stL sti).map wv, 10⟩ :: (Li ++ Ps), by simp only [List.cons_append, List.append_assoc], .slice sa ri.length sc, Li, by rw [← hab]; exact hsi, by rw [← hab]⟩
theorem tmodN (m k : Nat) : (m : Int).tmod (k : Int) = ((m % k : Nat) : Int) := (Int.ofNat_tmod m k).symm
theorem pb_hi {n i : Nat} (hi : 9 ≤ i) (hn : n < 2 ^ 64) : UInt8.ofNat (8 * n / 256 ^ i) = 0 := by
 rw [Nat.div_eq_of_lt]
 · rfl
 ·
  have : (256 : Nat) ^ 9 ≤ 256 ^ i := Nat.pow_le_pow_right zw hi
  omega
theorem pb_0 (n : BitVec 64) : (((n >>> (8 * 0)) <<< 3).setWidth 8).toNat = (UInt8.ofNat (8 * n.toNat / 256 ^ 0)).toNat := by
 rw [BitVec.toNat_setWidth, BitVec.toNat_shiftLeft, BitVec.toNat_ushiftRight, UInt8.toNat_ofNat', Nat.shiftLeft_eq, Nat.mul_zero, Nat.shiftRight_zero]
 simp only [Nat.pow_zero, Nat.div_one]; omega
theorem pb_mid (n : BitVec 64) {i : Nat} (hi : 0 < i) : ((((n >>> (8 * i)) <<< 3).setWidth 8) ||| ((((n >>> (8 * i - 8)) &&& 255#64) >>> 5).setWidth 8)).toNat = (UInt8.ofNat (8 * n.toNat / 256 ^ i)).toNat := by
 have e1 : (((n >>> (8 * i)) <<< 3).setWidth 8).toNat = (n.toNat / 256 ^ i % 32) * 2 ^ 3 := by
  rw [BitVec.toNat_setWidth, BitVec.toNat_shiftLeft, BitVec.toNat_ushiftRight, Nat.shiftLeft_eq, Nat.shiftRight_eq_div_pow, Nat.pow_mul]
  obtain ⟨q, hq⟩ : ∃ q, q = n.toNat / (2 ^ 8) ^ i := ⟨_, rfl⟩
  rw [← hq]; omega
 have e2 : ((((n >>> (8 * i - 8)) &&& 255#64) >>> 5).setWidth 8).toNat = n.toNat / 256 ^ (i - 1) % 256 / 32 := by
  rw [BitVec.toNat_setWidth, BitVec.toNat_ushiftRight, BitVec.toNat_and, BitVec.toNat_ushiftRight, Nat.shiftRight_eq_div_pow, Nat.shiftRight_eq_div_pow, show 8 * i - 8 = 8 * (i - 1) from by omega, Nat.pow_mul]
  rw [show (255#64).toNat = 2 ^ 8 - 1 from rfl, Nat.and_two_pow_sub_one_eq_mod]
  obtain ⟨q, hq⟩ : ∃ q, q = n.toNat / (2 ^ 8) ^ (i - 1) := ⟨_, rfl⟩
  rw [← hq]; omega
 rw [or_add e1 e2 zw, UInt8.toNat_ofNat', show (2 : Nat) ^ 8 = 256 from rfl, cnt_byte hi]; omega
def zmax (w n : Nat) : Nat := (2 * w - (n + 1 + w / 4) % (2 * w)) % (2 * w)
theorem zmax_lt {w : Nat} (n : Nat) (hw : 0 < w) : zmax w n < 2 * w := Nat.mod_lt _ zw
theorem beBytes_take {k n j : Nat} (h : j < k) : (beBytes k n).take (j + 1) = (beBytes k n).take j ++ [UInt8.ofNat (n / 256 ^ (k - 1 - j))] := by
 rw [List.take_add_one, beBytes_get h]; rfl
def padTo (w n z j : Nat) : List UInt8 := 128 :: (List.replicate z 0 ++ (beBytes (w / 4) (8 * n)).take j)
theorem padTo_z {w n z : Nat} : padTo w n z 0 ++ [0] = padTo w n (z + 1) 0 := by
 unfold padTo
 rw [List.take_zero, List.append_nil, List.append_nil, List.replicate_succ', List.cons_append]
theorem padTo_j {w n j : Nat} (z : Nat) (h : j < w / 4) : padTo w n z j ++ [UInt8.ofNat (8 * n / 256 ^ (w / 4 - 1 - j))] = padTo w n z (j + 1) := by
 unfold padTo
 rw [beBytes_take h, List.cons_append, List.append_assoc]
theorem padTo_pad {w n : Nat} : padTo w n (zmax w n) (w / 4) = pad w n := by
 unfold padTo pad zmax
 rw [List.take_of_length_le (by rw [beBytes_len]; exact Nat.le_refl _)]
theorem padTo_len {w n z j : Nat} (h : j ≤ w / 4) : (padTo w n z j).length = 1 + z + j := by
 unfold padTo
 rw [List.length_cons, List.length_append, List.length_replicate, List.length_take, beBytes_len, Nat.min_eq_left h]; omega
theorem padding32_any (w0 : World) (bh : Nat) (sv : Value) (n : BitVec 64) (X : List Value) (hn : n.toNat < 4611686018427387904) : FnX P 112 [.pointer (some ⟨bh, 0, none⟩), .int .i64 64, .int .i64 8] w0 [] [⟨bh, 0, sv :: w64 n :: X, 10⟩] (fun v Y => ∃ Lp, Sl v ((pad 32 n.toNat).map byteV) 1 Lp ∧ Y = Lp ++ [⟨bh, 0, sv :: w64 n :: X, 10⟩]) := by
 refine FnX.of 68 [.tmp 6] Go.Proofs.Tryz.func112 rfl rfl rfl rfl (fun G => ?_)
 refine zs ?_
 refine zc (T1.buildSl1 (os := [.const (.int .u8 128)]) ty_44 sz_5 zr_5 ze rfl (.cons z_C .nil) rfl (ones rfl) (fun b10 => z1 ?_))
 refine T.seq (T.block (T.loopL (σ := Value × Nat × List Blk) (l0 := [(0, _), (1, _), (2, _)]) (fun x => [(7, x.1)]) (fun x L => L = x.2.2 ++ (⟨bh, 0, sv :: w64 n :: X, 10⟩ :: G) ∧ Sl x.1 ((padTo 32 n.toNat x.2.1 0).map byteV) 1 x.2.2 ∧ x.2.1 ≤ zmax 32 n.toNat) (fun x => zmax 32 n.toNat - x.2.1) (_, 0, [⟨b10, 0, [byteV 128], 1⟩]) (.cons rfl .nil) zT z_B (⟨rfl, .inr ⟨b10, 0, 1, 1, 1, rfl, rfl, by omega, by omega, rfl⟩, Nat.zero_le _⟩) ?_))
 rintro ⟨si, z, Li⟩ e_ L ⟨rfl, hsi, hz⟩
 simp only at hsi hz
 obtain ⟨sa, sc, rfl⟩ := hsi.form1
 have hpl0 : (padTo 32 n.toNat z 0).length = 1 + z := padTo_len (Nat.zero_le _)
 have hzm := zmax_lt (w := 32) n.toNat ze
 refine zs ?_
 refine z0 (V1.nilCheck rfl) ?_
 refine z0 (V1.fieldAddr fl_171_1 rfl) ?_
 refine z0 (V1.load1 one_79 rfl (.own z_A zr)) ?_
 refine zq (V1.conv ty_79 ty_3 rfl (wrap_i64 _ zw zw)) ?_
 refine z0 (V1.lenSl ty_44 rfl) ?_
 refine zq (V1.add rfl rfl (wrap_i64 _ zw zw)) ?_
 refine zq (V1.add rfl rfl (wrap_i64 _ zw zw)) ?_
 refine z0 (V1.rem (c := (((n.toNat + (1 + z) + 8) % 64 : Nat) : Int)) rfl rfl zw (by rw [padTo_len (Nat.zero_le _)]; exact tmodN (n.toNat + (1 + z) + 8) 64)) ?_
 refine zc (T1.neI_split rfl rfl (fun h2_12 => ?_) (fun h2_12 => ?_))
 ·
  have hz2 : z < zmax 32 n.toNat := by
   unfold zmax at hz ⊢
   omega
  refine TL.nil ?_
  refine T.cond_t rfl (zs ?_)
  refine zc (T1.buildSl1 (os := [.const (.int .u8 0)]) ty_44 sz_5 zr_5 ze rfl (.cons z_C .nil) rfl (ones rfl) (fun b25 => ?_))
  refine zc (T1.append ty_44 kd_44 sz_5 by_5 zr_5 rfl ze ze rfl rfl hsi (.sl (n := 1) (RdN.at0 (cells := [byteV 0]) z_A) rfl) (one_bytes [0]) 1000 (by simp only [List.length_map, List.length_cons, List.length_nil]; rw [padTo_len (by omega)]; unfold zmax at *; omega) zw z_E (fun s2 Ls2 hs2 => ?_))
  rw [show [byteV 0] = ([0] : List UInt8).map byteV from rfl, ← List.map_append, padTo_z] at hs2
  refine z1 ?_
  exact ⟨(s2, z + 1, Ls2), _, _, z_N, (.cons rfl .nil), (.cons rfl (.cons rfl (.cons rfl .nil))), z_B, ⟨rfl, hs2, by simp only; omega⟩⟩
 ·
  have hz2 : z = zmax 32 n.toNat := by
   unfold zmax at hz ⊢
   omega
  subst hz2
  refine TL.nil ?_
  refine T.cond_f rfl (zs ?_)
  refine zq1 (V1.sub rfl rfl (wrap_i64 _ zw zw)) ?_
  refine T.block (T.loopL (σ := Value × Nat × List Blk) (l0 := [(0, _)]) (fun x => [(7, x.1), (8, .int .i64 ((x.2.1 : Int) - 1))]) (fun x L => L = x.2.2 ++ (⟨bh, 0, sv :: w64 n :: X, 10⟩ :: G) ∧ Sl x.1 ((padTo 32 n.toNat (zmax 32 n.toNat) (8 - x.2.1)).map byteV) 1 x.2.2 ∧ x.2.1 ≤ 8) (fun x => x.2.1) (_, 8, Li) (.cons rfl (.cons rfl .nil)) zT z_B (⟨rfl, (by simp only [Nat.sub_self]; exact hsi), Nat.le_refl _⟩) ?_)
  rintro ⟨si, y, Li⟩ e_ L ⟨rfl, hsi, hy⟩
  simp only at hsi hy
  obtain ⟨sa, sc, rfl⟩ := hsi.form1
  refine zs ?_
  refine zc (T1.geI_split rfl rfl (fun h5_1 => ?_) (fun h5_1 => ?_))
  ·
   simp only at h5_1
   obtain ⟨i, rfl⟩ : ∃ i, y = i + 1 := ⟨y - 1, by omega⟩
   refine TL.nil ?_
   refine T.cond_t rfl (T.skip (T.seq (T.block (T.seq (T.region (z1 ?_))))))
   refine T.seq (T.seq (T.region (z0 (V1.move' (v := .int .i64 (i : Int)) (congrArg (Value.int .i64) (show ((i + 1 : Nat) : Int) - 1 = (i : Int) by omega))) ?_)))
   refine z0 (V1.ltI rfl rfl (decide_eq_true zw)) ?_
   refine TL.nil ?_
   refine T.cond_t rfl (zs ?_)
   refine z0 (V1.nilCheck rfl) ?_
   refine z0 (V1.fieldAddr fl_171_1 rfl) ?_
   refine z0 (V1.load1 one_79 rfl (.own z_A zr)) ?_
   refine z0 (V1.move' (v := .int .i64 (i : Int)) (congrArg (Value.int .i64) (show ((i + 1 : Nat) : Int) - 1 = (i : Int) by omega))) ?_
   refine z0 (V1.mul rfl rfl (wrap_i64 _ zw zw)) ?_
   refine z0 (V1.shrW (k := 8 * i) u64U rfl (congrArg (Value.int .i64) (show (8 : Int) * (i : Int) = ((8 * i : Nat) : Int) by omega))) ?_
   refine z0 (V1.shlW (k := 3) u64U rfl rfl) ?_
   refine zq1 (V1.convW 8 u8U ty_79 ty_5 rfl) ?_
   refine T.seq (T.seq (T.live (l := [(0, _), (7, _), (8, _), (9, _)]) zT (fun e_ => ?_)))
   refine T.region (z0 (V1.move' (v := .int .i64 (i : Int)) (congrArg (Value.int .i64) (show ((i + 1 : Nat) : Int) - 1 = (i : Int) by omega))) ?_)
   refine zc (T1.gtI_split rfl rfl (fun h10_1 => ?_) (fun h10_1 => ?_))
   ·
    refine z0 (V1.move' z_C) ?_
    refine z0 (V1.move' (v := .int .i64 (i : Int)) (congrArg (Value.int .i64) (show ((i + 1 : Nat) : Int) - 1 = (i : Int) by omega))) ?_
    refine zq (V1.ltI rfl rfl (decide_eq_true zw)) ?_
    refine T.cond_t rfl (zs ?_)
    refine z0 (V1.nilCheck rfl) ?_
    refine z0 (V1.fieldAddr fl_171_1 rfl) ?_
    refine z0 (V1.load1 one_79 rfl (.own z_A zr)) ?_
    refine z0 (V1.move' (v := .int .i64 (i : Int)) (congrArg (Value.int .i64) (show ((i + 1 : Nat) : Int) - 1 = (i : Int) by omega))) ?_
    refine z0 (V1.mul rfl rfl (wrap_i64 _ zw zw)) ?_
    refine z0 (V1.sub rfl rfl (wrap_i64 _ zw zw)) ?_
    refine z0 (V1.shrW (k := 8 * i - 8) u64U rfl (congrArg (Value.int .i64) (show (8 : Int) * (i : Int) - 8 = ((8 * i - 8 : Nat) : Int) by omega))) ?_
    refine z0 (V1.andW (b := 255#64) u64U rfl rfl) ?_
    refine z0 (V1.shrW (k := 5) u64U rfl rfl) ?_
    refine z0 (V1.convW 8 u8U ty_79 ty_5 rfl) ?_
    refine zq1 (V1.orW u8U rfl rfl) ?_
    refine T.live (l := [(0, _), (7, _), (8, _), (9, _)]) zT (fun e_ => ?_)
    refine T.region (z0 (V1.move' z_C) ?_)
    refine z0 (V1.move' (v := byteV (UInt8.ofNat (8 * n.toNat / 256 ^ i))) (congrArg (fun z : Nat => Value.int .u8 (z : Int)) (pb_mid n zw))) ?_
    refine zc (T1.buildSl1 (os := [.tmp 64]) ty_44 sz_5 zr_5 ze rfl (.cons z_C .nil) rfl (ones rfl) (fun b65 => ?_))
    refine zc (T1.append ty_44 kd_44 sz_5 by_5 zr_5 rfl ze ze rfl rfl hsi (.sl (n := 1) (RdN.at0 (cells := [byteV (UInt8.ofNat (8 * n.toNat / 256 ^ i))]) z_A) rfl) (one_bytes [(UInt8.ofNat (8 * n.toNat / 256 ^ i))]) 1000 (by simp only [List.length_map, List.length_cons, List.length_nil]; rw [padTo_len (by omega)]; unfold zmax at *; omega) zw z_E (fun s2 Ls2 hs2 => ?_))
    rw [show [byteV (UInt8.ofNat (8 * n.toNat / 256 ^ i))] = [UInt8.ofNat (8 * n.toNat / 256 ^ (32 / 4 - 1 - (8 - (i + 1))))].map byteV from by rw [show 32 / 4 - 1 - (8 - (i + 1)) = i from by omega]; rfl, ← List.map_append, padTo_j _ (by omega)] at hs2
    refine z1 ?_
    refine T.region (z0 (V1.move' (v := .int .i64 (i : Int)) (congrArg (Value.int .i64) (show ((i + 1 : Nat) : Int) - 1 = (i : Int) by omega))) ?_)
    refine zq1 (V1.sub rfl rfl (wrap_i64 _ zw zw)) ?_
    exact ⟨(s2, i, Ls2), _, _, z_N, (.cons rfl (.cons (congrArg (Value.int .i64) (show ((i : Nat) : Int) - 1 = _ from rfl)) .nil)), (.cons rfl .nil), z_B, ⟨rfl, by simp only; rw [show 8 - i = 8 - (i + 1) + 1 from by omega]; exact hs2, by simp only; omega⟩⟩
   ·
    refine zs ?_
    refine TL.no rfl ?_
    refine TL.no rfl ?_
    refine zs ?_
    refine T.cond_f rfl (T.skip (T.region (z0 (V1.move' z_C) ?_)))
    refine z0 (V1.move' (v := byteV (UInt8.ofNat (8 * n.toNat / 256 ^ i))) (show Value.int .u8 (((n >>> (8 * i)) <<< 3).setWidth 8).toNat = _ from by (have hi0 : i = 0 := zw); subst hi0; exact congrArg (fun z : Nat => Value.int .u8 (z : Int)) (pb_0 n))) ?_
    refine zc (T1.buildSl1 (os := [.tmp 64]) ty_44 sz_5 zr_5 ze rfl (.cons z_C .nil) rfl (ones rfl) (fun b65 => ?_))
    refine zc (T1.append ty_44 kd_44 sz_5 by_5 zr_5 rfl ze ze rfl rfl hsi (.sl (n := 1) (RdN.at0 (cells := [byteV (UInt8.ofNat (8 * n.toNat / 256 ^ i))]) z_A) rfl) (one_bytes [(UInt8.ofNat (8 * n.toNat / 256 ^ i))]) 1000 (by simp only [List.length_map, List.length_cons, List.length_nil]; rw [padTo_len (by omega)]; unfold zmax at *; omega) zw z_E (fun s2 Ls2 hs2 => ?_))
    rw [show [byteV (UInt8.ofNat (8 * n.toNat / 256 ^ i))] = [UInt8.ofNat (8 * n.toNat / 256 ^ (32 / 4 - 1 - (8 - (i + 1))))].map byteV from by rw [show 32 / 4 - 1 - (8 - (i + 1)) = i from by omega]; rfl, ← List.map_append, padTo_j _ (by omega)] at hs2
    refine z1 ?_
    refine T.region (z0 (V1.move' (v := .int .i64 (i : Int)) (congrArg (Value.int .i64) (show ((i + 1 : Nat) : Int) - 1 = (i : Int) by omega))) ?_)
    refine zq1 (V1.sub rfl rfl (wrap_i64 _ zw zw)) ?_
    exact ⟨(s2, i, Ls2), _, _, z_N, (.cons rfl (.cons (congrArg (Value.int .i64) (show ((i : Nat) : Int) - 1 = _ from rfl)) .nil)), (.cons rfl .nil), z_B, ⟨rfl, by simp only; rw [show 8 - i = 8 - (i + 1) + 1 from by omega]; exact hs2, by simp only; omega⟩⟩
  ·
   simp only at h5_1
   obtain rfl : y = 0 := by omega
   refine TL.nil ?_
   refine T.cond_f rfl (zs ?_)
   rw [padTo_pad] at hsi
   exact ⟨_, Li ++ (⟨bh, 0, sv :: w64 n :: X, 10⟩ :: G), _, .cons (.tmp z_C) .nil, z_B, Li ++ [⟨bh, 0, sv :: w64 n :: X, 10⟩], by simp only [List.append_assoc, List.cons_append, List.nil_append], Li, hsi, rfl⟩
theorem padding64_any (w0 : World) (bh : Nat) (sv : Value) (n : BitVec 64) (X : List Value) (hn : n.toNat < 4611686018427387904) : FnX P 112 [.pointer (some ⟨bh, 0, none⟩), .int .i64 128, .int .i64 16] w0 [] [⟨bh, 0, sv :: w64 n :: X, 10⟩] (fun v Y => ∃ Lp, Sl v ((pad 64 n.toNat).map byteV) 1 Lp ∧ Y = Lp ++ [⟨bh, 0, sv :: w64 n :: X, 10⟩]) := by
 refine FnX.of 68 [.tmp 6] Go.Proofs.Tryz.func112 rfl rfl rfl rfl (fun G => ?_)
 refine zs ?_
 refine zc (T1.buildSl1 (os := [.const (.int .u8 128)]) ty_44 sz_5 zr_5 ze rfl (.cons z_C .nil) rfl (ones rfl) (fun b10 => z1 ?_))
 refine T.seq (T.block (T.loopL (σ := Value × Nat × List Blk) (l0 := [(0, _), (1, _), (2, _)]) (fun x => [(7, x.1)]) (fun x L => L = x.2.2 ++ (⟨bh, 0, sv :: w64 n :: X, 10⟩ :: G) ∧ Sl x.1 ((padTo 64 n.toNat x.2.1 0).map byteV) 1 x.2.2 ∧ x.2.1 ≤ zmax 64 n.toNat) (fun x => zmax 64 n.toNat - x.2.1) (_, 0, [⟨b10, 0, [byteV 128], 1⟩]) (.cons rfl .nil) zT z_B (⟨rfl, .inr ⟨b10, 0, 1, 1, 1, rfl, rfl, by omega, by omega, rfl⟩, Nat.zero_le _⟩) ?_))
 rintro ⟨si, z, Li⟩ e_ L ⟨rfl, hsi, hz⟩
 simp only at hsi hz
 obtain ⟨sa, sc, rfl⟩ := hsi.form1
 have hpl0 : (padTo 64 n.toNat z 0).length = 1 + z := padTo_len (Nat.zero_le _)
 have hzm := zmax_lt (w := 64) n.toNat ze
 refine zs ?_
 refine z0 (V1.nilCheck rfl) ?_
 refine z0 (V1.fieldAddr fl_171_1 rfl) ?_
 refine z0 (V1.load1 one_79 rfl (.own z_A zr)) ?_
 refine zq (V1.conv ty_79 ty_3 rfl (wrap_i64 _ zw zw)) ?_
 refine z0 (V1.lenSl ty_44 rfl) ?_
 refine zq (V1.add rfl rfl (wrap_i64 _ zw zw)) ?_
 refine zq (V1.add rfl rfl (wrap_i64 _ zw zw)) ?_
 refine z0 (V1.rem (c := (((n.toNat + (1 + z) + 16) % 128 : Nat) : Int)) rfl rfl zw (by rw [padTo_len (Nat.zero_le _)]; exact tmodN (n.toNat + (1 + z) + 16) 128)) ?_
 refine zc (T1.neI_split rfl rfl (fun h2_12 => ?_) (fun h2_12 => ?_))
 ·
  have hz2 : z < zmax 64 n.toNat := by
   unfold zmax at hz ⊢
   omega
  refine TL.nil ?_
  refine T.cond_t rfl (zs ?_)
  refine zc (T1.buildSl1 (os := [.const (.int .u8 0)]) ty_44 sz_5 zr_5 ze rfl (.cons z_C .nil) rfl (ones rfl) (fun b25 => ?_))
  refine zc (T1.append ty_44 kd_44 sz_5 by_5 zr_5 rfl ze ze rfl rfl hsi (.sl (n := 1) (RdN.at0 (cells := [byteV 0]) z_A) rfl) (one_bytes [0]) 1000 (by simp only [List.length_map, List.length_cons, List.length_nil]; rw [padTo_len (by omega)]; unfold zmax at *; omega) zw z_E (fun s2 Ls2 hs2 => ?_))
  rw [show [byteV 0] = ([0] : List UInt8).map byteV from rfl, ← List.map_append, padTo_z] at hs2
  refine z1 ?_
  exact ⟨(s2, z + 1, Ls2), _, _, z_N, (.cons rfl .nil), (.cons rfl (.cons rfl (.cons rfl .nil))), z_B, ⟨rfl, hs2, by simp only; omega⟩⟩
 ·
  have hz2 : z = zmax 64 n.toNat := by
   unfold zmax at hz ⊢
   omega
  subst hz2
  refine TL.nil ?_
  refine T.cond_f rfl (zs ?_)
  refine zq1 (V1.sub rfl rfl (wrap_i64 _ zw zw)) ?_
  refine T.block (T.loopL (σ := Value × Nat × List Blk) (l0 := [(0, _)]) (fun x => [(7, x.1), (8, .int .i64 ((x.2.1 : Int) - 1))]) (fun x L => L = x.2.2 ++ (⟨bh, 0, sv :: w64 n :: X, 10⟩ :: G) ∧ Sl x.1 ((padTo 64 n.toNat (zmax 64 n.toNat) (16 - x.2.1)).map byteV) 1 x.2.2 ∧ x.2.1 ≤ 16) (fun x => x.2.1) (_, 16, Li) (.cons rfl (.cons rfl .nil)) zT z_B (⟨rfl, (by simp only [Nat.sub_self]; exact hsi), Nat.le_refl _⟩) ?_)
  rintro ⟨si, y, Li⟩ e_ L ⟨rfl, hsi, hy⟩
  simp only at hsi hy
  obtain ⟨sa, sc, rfl⟩ := hsi.form1
  refine zs ?_
  refine zc (T1.geI_split rfl rfl (fun h5_1 => ?_) (fun h5_1 => ?_))
  ·
   simp only at h5_1
   obtain ⟨i, rfl⟩ : ∃ i, y = i + 1 := ⟨y - 1, by omega⟩
   refine TL.nil ?_
   refine T.cond_t rfl (T.skip (T.seq (T.block (T.seq (T.region (z1 ?_))))))
   refine T.seq (T.seq (T.region (z0 (V1.move' (v := .int .i64 (i : Int)) (congrArg (Value.int .i64) (show ((i + 1 : Nat) : Int) - 1 = (i : Int) by omega))) ?_)))
   refine zc (T1.ltI_split rfl rfl (fun h8_1 => ?_) (fun h8_1 => ?_))
   ·
    refine TL.nil ?_
    refine T.cond_t rfl (zs ?_)
    refine z0 (V1.nilCheck rfl) ?_
    refine z0 (V1.fieldAddr fl_171_1 rfl) ?_
    refine z0 (V1.load1 one_79 rfl (.own z_A zr)) ?_
    refine z0 (V1.move' (v := .int .i64 (i : Int)) (congrArg (Value.int .i64) (show ((i + 1 : Nat) : Int) - 1 = (i : Int) by omega))) ?_
    refine z0 (V1.mul rfl rfl (wrap_i64 _ zw zw)) ?_
    refine z0 (V1.shrW (k := 8 * i) u64U rfl (congrArg (Value.int .i64) (show (8 : Int) * (i : Int) = ((8 * i : Nat) : Int) by omega))) ?_
    refine z0 (V1.shlW (k := 3) u64U rfl rfl) ?_
    refine zq1 (V1.convW 8 u8U ty_79 ty_5 rfl) ?_
    refine T.seq (T.seq (T.live (l := [(0, _), (7, _), (8, _), (9, _)]) zT (fun e_ => ?_)))
    refine T.region (z0 (V1.move' (v := .int .i64 (i : Int)) (congrArg (Value.int .i64) (show ((i + 1 : Nat) : Int) - 1 = (i : Int) by omega))) ?_)
    refine zc (T1.gtI_split rfl rfl (fun h10_1 => ?_) (fun h10_1 => ?_))
    ·
     refine z0 (V1.move' z_C) ?_
     refine z0 (V1.move' (v := .int .i64 (i : Int)) (congrArg (Value.int .i64) (show ((i + 1 : Nat) : Int) - 1 = (i : Int) by omega))) ?_
     refine zq (V1.ltI rfl rfl (decide_eq_true zw)) ?_
     refine T.cond_t rfl (zs ?_)
     refine z0 (V1.nilCheck rfl) ?_
     refine z0 (V1.fieldAddr fl_171_1 rfl) ?_
     refine z0 (V1.load1 one_79 rfl (.own z_A zr)) ?_
     refine z0 (V1.move' (v := .int .i64 (i : Int)) (congrArg (Value.int .i64) (show ((i + 1 : Nat) : Int) - 1 = (i : Int) by omega))) ?_
     refine z0 (V1.mul rfl rfl (wrap_i64 _ zw zw)) ?_
     refine z0 (V1.sub rfl rfl (wrap_i64 _ zw zw)) ?_
     refine z0 (V1.shrW (k := 8 * i - 8) u64U rfl (congrArg (Value.int .i64) (show (8 : Int) * (i : Int) - 8 = ((8 * i - 8 : Nat) : Int) by omega))) ?_
     refine z0 (V1.andW (b := 255#64) u64U rfl rfl) ?_
     refine z0 (V1.shrW (k := 5) u64U rfl rfl) ?_
     refine z0 (V1.convW 8 u8U ty_79 ty_5 rfl) ?_
     refine zq1 (V1.orW u8U rfl rfl) ?_
     refine T.live (l := [(0, _), (7, _), (8, _), (9, _)]) zT (fun e_ => ?_)
     refine T.region (z0 (V1.move' z_C) ?_)
     refine z0 (V1.move' (v := byteV (UInt8.ofNat (8 * n.toNat / 256 ^ i))) (congrArg (fun z : Nat => Value.int .u8 (z : Int)) (pb_mid n zw))) ?_
     refine zc (T1.buildSl1 (os := [.tmp 64]) ty_44 sz_5 zr_5 ze rfl (.cons z_C .nil) rfl (ones rfl) (fun b65 => ?_))
     refine zc (T1.append ty_44 kd_44 sz_5 by_5 zr_5 rfl ze ze rfl rfl hsi (.sl (n := 1) (RdN.at0 (cells := [byteV (UInt8.ofNat (8 * n.toNat / 256 ^ i))]) z_A) rfl) (one_bytes [(UInt8.ofNat (8 * n.toNat / 256 ^ i))]) 1000 (by simp only [List.length_map, List.length_cons, List.length_nil]; rw [padTo_len (by omega)]; unfold zmax at *; omega) zw z_E (fun s2 Ls2 hs2 => ?_))
     rw [show [byteV (UInt8.ofNat (8 * n.toNat / 256 ^ i))] = [UInt8.ofNat (8 * n.toNat / 256 ^ (64 / 4 - 1 - (16 - (i + 1))))].map byteV from by rw [show 64 / 4 - 1 - (16 - (i + 1)) = i from by omega]; rfl, ← List.map_append, padTo_j _ (by omega)] at hs2
     refine z1 ?_
     refine T.region (z0 (V1.move' (v := .int .i64 (i : Int)) (congrArg (Value.int .i64) (show ((i + 1 : Nat) : Int) - 1 = (i : Int) by omega))) ?_)
     refine zq1 (V1.sub rfl rfl (wrap_i64 _ zw zw)) ?_
     exact ⟨(s2, i, Ls2), _, _, z_N, (.cons rfl (.cons (congrArg (Value.int .i64) (show ((i : Nat) : Int) - 1 = _ from rfl)) .nil)), (.cons rfl .nil), z_B, ⟨rfl, by simp only; rw [show 16 - i = 16 - (i + 1) + 1 from by omega]; exact hs2, by simp only; omega⟩⟩
    ·
     refine zs ?_
     refine TL.no rfl ?_
     refine TL.no rfl ?_
     refine zs ?_
     refine T.cond_f rfl (T.skip (T.region (z0 (V1.move' z_C) ?_)))
     refine z0 (V1.move' (v := byteV (UInt8.ofNat (8 * n.toNat / 256 ^ i))) (show Value.int .u8 (((n >>> (8 * i)) <<< 3).setWidth 8).toNat = _ from by (have hi0 : i = 0 := zw); subst hi0; exact congrArg (fun z : Nat => Value.int .u8 (z : Int)) (pb_0 n))) ?_
     refine zc (T1.buildSl1 (os := [.tmp 64]) ty_44 sz_5 zr_5 ze rfl (.cons z_C .nil) rfl (ones rfl) (fun b65 => ?_))
     refine zc (T1.append ty_44 kd_44 sz_5 by_5 zr_5 rfl ze ze rfl rfl hsi (.sl (n := 1) (RdN.at0 (cells := [byteV (UInt8.ofNat (8 * n.toNat / 256 ^ i))]) z_A) rfl) (one_bytes [(UInt8.ofNat (8 * n.toNat / 256 ^ i))]) 1000 (by simp only [List.length_map, List.length_cons, List.length_nil]; rw [padTo_len (by omega)]; unfold zmax at *; omega) zw z_E (fun s2 Ls2 hs2 => ?_))
     rw [show [byteV (UInt8.ofNat (8 * n.toNat / 256 ^ i))] = [UInt8.ofNat (8 * n.toNat / 256 ^ (64 / 4 - 1 - (16 - (i + 1))))].map byteV from by rw [show 64 / 4 - 1 - (16 - (i + 1)) = i from by omega]; rfl, ← List.map_append, padTo_j _ (by omega)] at hs2
     refine z1 ?_
     refine T.region (z0 (V1.move' (v := .int .i64 (i : Int)) (congrArg (Value.int .i64) (show ((i + 1 : Nat) : Int) - 1 = (i : Int) by omega))) ?_)
     refine zq1 (V1.sub rfl rfl (wrap_i64 _ zw zw)) ?_
     exact ⟨(s2, i, Ls2), _, _, z_N, (.cons rfl (.cons (congrArg (Value.int .i64) (show ((i : Nat) : Int) - 1 = _ from rfl)) .nil)), (.cons rfl .nil), z_B, ⟨rfl, by simp only; rw [show 16 - i = 16 - (i + 1) + 1 from by omega]; exact hs2, by simp only; omega⟩⟩
   ·
    refine TL.nil ?_
    refine T.cond_f rfl (T.skip (T.seq (T.seq (T.region (z0 (V1.move' (v := .int .i64 (i : Int)) (congrArg (Value.int .i64) (show ((i + 1 : Nat) : Int) - 1 = (i : Int) by omega))) ?_)))))
    refine zc (T1.gtI_split rfl rfl (fun h10_1 => ?_) (fun h10_1 => ?_))
    ·
     refine z0 (V1.move' z_C) ?_
     refine z0 (V1.move' (v := .int .i64 (i : Int)) (congrArg (Value.int .i64) (show ((i + 1 : Nat) : Int) - 1 = (i : Int) by omega))) ?_
     refine zq (V1.ltI rfl rfl (decide_eq_false zw)) ?_
     refine T.cond_f rfl (T.skip (T.region (z0 (V1.move' z_C) ?_)))
     refine z0 (V1.move' (v := byteV (UInt8.ofNat (8 * n.toNat / 256 ^ i))) (show Value.int .u8 0 = _ from by rw [pb_hi zw n.isLt]; rfl)) ?_
     refine zc (T1.buildSl1 (os := [.tmp 64]) ty_44 sz_5 zr_5 ze rfl (.cons z_C .nil) rfl (ones rfl) (fun b65 => ?_))
     refine zc (T1.append ty_44 kd_44 sz_5 by_5 zr_5 rfl ze ze rfl rfl hsi (.sl (n := 1) (RdN.at0 (cells := [byteV (UInt8.ofNat (8 * n.toNat / 256 ^ i))]) z_A) rfl) (one_bytes [(UInt8.ofNat (8 * n.toNat / 256 ^ i))]) 1000 (by simp only [List.length_map, List.length_cons, List.length_nil]; rw [padTo_len (by omega)]; unfold zmax at *; omega) zw z_E (fun s2 Ls2 hs2 => ?_))
     rw [show [byteV (UInt8.ofNat (8 * n.toNat / 256 ^ i))] = [UInt8.ofNat (8 * n.toNat / 256 ^ (64 / 4 - 1 - (16 - (i + 1))))].map byteV from by rw [show 64 / 4 - 1 - (16 - (i + 1)) = i from by omega]; rfl, ← List.map_append, padTo_j _ (by omega)] at hs2
     refine z1 ?_
     refine T.live (l := [(0, _), (7, _), (8, _)]) zT (fun e_ => ?_)
     refine T.region (z0 (V1.move' (v := .int .i64 (i : Int)) (congrArg (Value.int .i64) (show ((i + 1 : Nat) : Int) - 1 = (i : Int) by omega))) ?_)
     refine zq1 (V1.sub rfl rfl (wrap_i64 _ zw zw)) ?_
     exact ⟨(s2, i, Ls2), _, _, z_N, (.cons rfl (.cons (congrArg (Value.int .i64) (show ((i : Nat) : Int) - 1 = _ from rfl)) .nil)), (.cons rfl .nil), z_B, ⟨rfl, by simp only; rw [show 16 - i = 16 - (i + 1) + 1 from by omega]; exact hs2, by simp only; omega⟩⟩
    ·
     refine zs ?_
     refine TL.no rfl ?_
     refine TL.no rfl ?_
     refine zs ?_
     refine T.cond_f rfl (T.skip (T.region (z0 (V1.move' z_C) ?_)))
     refine z0 (V1.move' (v := byteV (UInt8.ofNat (8 * n.toNat / 256 ^ i))) (show Value.int .u8 0 = _ from by rw [pb_hi zw n.isLt]; rfl)) ?_
     refine zc (T1.buildSl1 (os := [.tmp 64]) ty_44 sz_5 zr_5 ze rfl (.cons z_C .nil) rfl (ones rfl) (fun b65 => ?_))
     refine zc (T1.append ty_44 kd_44 sz_5 by_5 zr_5 rfl ze ze rfl rfl hsi (.sl (n := 1) (RdN.at0 (cells := [byteV (UInt8.ofNat (8 * n.toNat / 256 ^ i))]) z_A) rfl) (one_bytes [(UInt8.ofNat (8 * n.toNat / 256 ^ i))]) 1000 (by simp only [List.length_map, List.length_cons, List.length_nil]; rw [padTo_len (by omega)]; unfold zmax at *; omega) zw z_E (fun s2 Ls2 hs2 => ?_))
     rw [show [byteV (UInt8.ofNat (8 * n.toNat / 256 ^ i))] = [UInt8.ofNat (8 * n.toNat / 256 ^ (64 / 4 - 1 - (16 - (i + 1))))].map byteV from by rw [show 64 / 4 - 1 - (16 - (i + 1)) = i from by omega]; rfl, ← List.map_append, padTo_j _ (by omega)] at hs2
     refine z1 ?_
     refine T.live (l := [(0, _), (7, _), (8, _)]) zT (fun e_ => ?_)
     refine T.region (z0 (V1.move' (v := .int .i64 (i : Int)) (congrArg (Value.int .i64) (show ((i + 1 : Nat) : Int) - 1 = (i : Int) by omega))) ?_)
     refine zq1 (V1.sub rfl rfl (wrap_i64 _ zw zw)) ?_
     exact ⟨(s2, i, Ls2), _, _, z_N, (.cons rfl (.cons (congrArg (Value.int .i64) (show ((i : Nat) : Int) - 1 = _ from rfl)) .nil)), (.cons rfl .nil), z_B, ⟨rfl, by simp only; rw [show 16 - i = 16 - (i + 1) + 1 from by omega]; exact hs2, by simp only; omega⟩⟩
  ·
   simp only at h5_1
   obtain rfl : y = 0 := by omega
   refine TL.nil ?_
   refine T.cond_f rfl (zs ?_)
   rw [padTo_pad] at hsi
   exact ⟨_, Li ++ (⟨bh, 0, sv :: w64 n :: X, 10⟩ :: G), _, .cons (.tmp z_C) .nil, z_B, Li ++ [⟨bh, 0, sv :: w64 n :: X, 10⟩], by simp only [List.append_assoc, List.cons_append, List.nil_append], Li, hsi, rfl⟩
end Go.Proofs.YtfjedhmffccgnaaGreatDoor.S
namespace Go.Proofs.YtfjedhmffccgnaaGreatDoor.S
set_option maxRecDepth 100000
set_option maxHeartbeats 2000000
open Go.RowKit
open Sh
def HB {w : Nat} (Tp : Sp w) (wv : BitVec w → Value) (bh : Nat) (l : List UInt8) (X : List Blk) : Prop := ∃ s Lr, X = ⟨bh, 0, s :: w64 (BitVec.ofNat 64 l.length) :: (stL (absorb Tp Tp.init l).1).map wv, 10⟩ :: Lr ∧ Sl s ((absorb Tp Tp.init l).2.map byteV) 1 Lr
theorem cnt_add {l p : List UInt8} : BitVec.ofNat 64 l.length + BitVec.ofInt 64 (p.length : Int) = BitVec.ofNat 64 (l ++ p).length := by
 rw [BitVec.ofInt_natCast, List.length_append, ← BitVec.ofNat_add]
theorem take_flat {ps : List (List UInt8)} {k : Nat} {p : List UInt8} (h : ps[k]? = some p) : (ps.take (k + 1)).flatten = (ps.take k).flatten ++ p := by
 rw [List.take_add_one, h]; simp
theorem fill_end {α : Type} {f : α → Value} {WW : List α} {z : Value} {m : Nat} (h : WW.length = m) : (WW.take m).map f ++ List.replicate (m - m) z = WW.map f := by
 rw [List.take_of_length_le zw, Nat.sub_self]; simp
theorem getD_of {α : Type} {l : List α} {i : Nat} {x d : α} (h : l[i]? = some x) : l.getD i d = x := by rw [List.getD_eq_getElem?_getD, h]; rfl
theorem state32 {st : R8 32} {i : Nat} (h : i < 8) : ((stL st).map w32)[i]? = some (w32 ((stL st).getD i 0)) := by
 rw [List.getElem?_map, List.getD_eq_getElem?_getD, List.getElem?_eq_getElem (show i < (stL st).length from h)]; rfl
theorem outbyte32 {st : R8 32} {i : Nat} (h : i < 32) : ((((stL st).getD (i / 4) 0) >>> (8 * (3 - i % 4))).setWidth 8).toNat = ((outB st).getD i 0).toNat := by
 rw [getD_of (outB_get ze h), byte_shift]
theorem feed256 (w0 : World) (bh : Nat) (s pv : Value) (n : BitVec 64) (st : R8 32) (r p : List UInt8) (Lr Ps : List Blk) (hs : Sl s (r.map byteV) 1 Lr) (hp : PartR w0 Ps pv p) (hr : r.length < 2 * 32) (hpl : p.length ≤ 200000000000000) : FnX P 110 [.pointer (some ⟨bh, 0, none⟩), .int .i64 64, pv, .func (.func 111) #[.pointer (some ⟨bh, 0, none⟩)] #[]] w0 [] (⟨bh, 0, s :: w64 n :: (stL st).map w32, 10⟩ :: (Lr ++ Ps))
 (fun _ Y => ∃ s' Lr', Sl s' ((absorb T256 st (r ++ p)).2.map byteV) 1 Lr' ∧ Y = ⟨bh, 0, s' :: w64 (n + BitVec.ofInt 64 (p.length : Int)) :: (stL (absorb T256 st (r ++ p)).1).map w32, 10⟩ :: (Lr' ++ Ps)) :=
 feed_any T256 w32 111 has_111 ze ze blockC256 w0 bh s pv n st r p Lr Ps hs hp hr hpl
theorem New256_any (w : World) : Fn P 65 [] w [] (fun v Y => ∃ b, v = .pointer (some ⟨b, 0, none⟩) ∧ HB T256 w32 b [] Y) := by
 refine Fn.of 4 [.tmp 0] Go.Proofs.Tryz.func65 rfl rfl rfl rfl ?_
 refine zs ?_
 refine z0 (V1.buildFA ty_169 sz_37 zr_169 (.one rfl z_C rfl (.one rfl z_C rfl (.one rfl z_C rfl (.one rfl z_C rfl (.one rfl z_C rfl (.one rfl z_C rfl (.one rfl z_C rfl (.one rfl z_C rfl .nil)))))))) z_I) ?_
 refine z0 (V1.buildF pl_173 zr_173 (.many rfl z_C rfl .nil) z_I) ?_
 refine zc (T1.boxN 10 rfl rfl (fun b3 => zs ?_))
 exact ⟨_, [⟨b3, 0, .slice none 0 0 :: w64 0 :: (stL (absorb T256 T256.init []).1).map w32, 10⟩], _, .cons (.tmp z_C) .nil, z_B, b3, rfl, _, [], rfl, Sl.nil⟩
theorem Write256_any (w0 : World) (bh : Nat) (v : Value) (l : List UInt8) (ps : List (List UInt8)) (X Ps : List Blk) (hb : HB T256 w32 bh l X) (hp : PartsR w0 Ps v ps) (hlen : ∀ p ∈ ps, p.length ≤ 200000000000000) (hpn : ps.length < 9223372036854775807) : FnX P 66 [.pointer (some ⟨bh, 0, none⟩), v] w0 [] (X ++ Ps) (fun _ Y => ∃ X', HB T256 w32 bh (l ++ ps.flatten) X' ∧ Y = X' ++ Ps) := by
 obtain ⟨s0, Lr0, rfl, hs0⟩ := hb
 obtain ⟨pa, pc, rfl⟩ := hp.form
 refine FnX.of 20 [] Go.Proofs.Tryz.func66 rfl rfl rfl rfl (fun G => ?_)
 simp only [List.cons_append, List.append_assoc]
 refine zs ?_
 refine zq1 (V1.lenSl ty_115 rfl) ?_
 refine T.block (T.loopL (σ := Nat × Value × List Blk × List UInt8) (l0 := [(0, _), (6, _), (7, _)]) (fun x => [(8, .int .i64 (x.1 : Nat))]) (fun x L => L = ⟨bh, 0, x.2.1 :: w64 (BitVec.ofNat 64 (x.2.2.2).length) :: (stL (absorb T256 T256.init (x.2.2.2)).1).map w32, 10⟩ :: (x.2.2.1 ++ (Ps ++ G)) ∧ Sl x.2.1 ((absorb T256 T256.init x.2.2.2).2.map byteV) 1 x.2.2.1 ∧ x.2.2.2 = l ++ (ps.take x.1).flatten ∧ x.1 ≤ ps.length) (fun x => ps.length - x.1) (0, s0, Lr0, l) (.cons rfl .nil) zT z_B (⟨rfl, hs0, by simp only [List.take_zero, List.flatten_nil, List.append_nil], Nat.zero_le _⟩) ?_)
 rintro ⟨q, s, Lr, lk⟩ e_ L ⟨rfl, hsl, hlk, hq⟩
 simp only at hsl hq hlk
 refine zs ?_
 refine zc (T1.ltI_split rfl rfl (fun h1_0 => ?_) (fun h1_0 => ?_))
 ·
  simp only at h1_0
  obtain ⟨ba, oa, sv, p, rfl, hpk, hpr, hrd⟩ := hp.at (P := P) (k := q) zw
  obtain ⟨st_, hst_⟩ : ∃ z, z = (absorb T256 T256.init lk).1 := ⟨_, rfl⟩
  obtain ⟨r_, hr_⟩ : ∃ z, z = (absorb T256 T256.init lk).2 := ⟨_, rfl⟩
  have hrl : r_.length < 2 * 32 := by rw [hr_]; exact (absorb_rest T256 ze _ _ _ (Nat.le_refl _)).1
  rw [← hr_] at hsl
  rw [← hst_]
  refine zs ?_
  refine T.cond_t rfl (zs ?_)
  refine z0 (V1.indexAddrS ty_115 sz_44 rfl rfl zw zw) ?_
  refine zq (V1.load1 one_44 rfl (hrd _ rfl rfl _ (by intro B hB; simp only [List.mem_cons, List.mem_append]; simp [hB]))) ?_
  refine z0 (V1.nilCheck rfl) ?_
  refine zq (V1.fieldAddr fl_173_0 rfl) ?_
  refine z0 (V1.makeFunc1 z_C) ?_
  refine zc (T1.callX («as» := [.pointer (some ⟨bh, 0, none⟩), .int .i64 64, sv, .func (.func 111) #[.pointer (some ⟨bh, 0, none⟩)] #[]]) has_110 rfl (feed256 _ bh s sv (BitVec.ofNat 64 lk.length) st_ r_ p Lr Ps hsl hpr hrl (hlen p (List.mem_of_getElem? hpk))) z_B (fun v Y hY => ?_))
  obtain ⟨s', Lr', hsl', rfl⟩ := hY
  rw [hst_, hr_] at hsl' ⊢
  rw [← absorb_append T256 ze _ _ _ _ (Nat.le_refl _)] at hsl'
  rw [← absorb_append T256 ze _ _ _ _ (Nat.le_refl _), cnt_add]
  simp only [List.cons_append, List.append_assoc]
  refine zs ?_
  refine zq1 (V1.add rfl rfl (wrap_i64 _ zw zw)) ?_
  exact ⟨(q + 1, s', Lr', lk ++ p), _, _, z_N, (.cons rfl .nil), (.cons rfl (.cons rfl (.cons rfl .nil))), z_B, ⟨rfl, hsl', by simp only; rw [hlk, take_flat hpk, List.append_assoc], by simp only; omega⟩⟩
 ·
  simp only at h1_0
  obtain rfl : q = ps.length := by omega
  refine zs ?_
  refine T.cond_f rfl (T.exit ?_)
  rw [List.take_of_length_le (Nat.le_refl _)] at hlk
  subst hlk
  exact ⟨_, ⟨bh, 0, s :: w64 (BitVec.ofNat 64 (l ++ ps.flatten).length) :: (stL (absorb T256 T256.init (l ++ ps.flatten)).1).map w32, 10⟩ :: (Lr ++ (Ps ++ G)), _, .nil, z_B, ⟨bh, 0, s :: w64 (BitVec.ofNat 64 (l ++ ps.flatten).length) :: (stL (absorb T256 T256.init (l ++ ps.flatten)).1).map w32, 10⟩ :: (Lr ++ Ps), by simp only [List.cons_append, List.append_assoc], ⟨bh, 0, s :: w64 (BitVec.ofNat 64 (l ++ ps.flatten).length) :: (stL (absorb T256 T256.init (l ++ ps.flatten)).1).map w32, 10⟩ :: Lr, ⟨s, Lr, rfl, hsl⟩, rfl⟩
theorem tquoN (m k : Nat) : (m : Int).tdiv (k : Int) = ((m / k : Nat) : Int) := (Int.ofNat_tdiv m k).symm
theorem one_part {w0 : World} {Ps : List Blk} {v : Value} {p : List UInt8} (h : PartR w0 Ps v p) : ∀ (i : Nat) (sv : Value) (q : List UInt8), [v][i]? = some sv → [p][i]? = some q → PartR w0 Ps sv q := by
 intro i sv q h1 h2
 match i with
 | 0 => cases h1; cases h2; exact h
 | i + 1 => simp at h1
theorem one_len {p : List UInt8} {N : Nat} (h : p.length ≤ N) : ∀ q ∈ [p], q.length ≤ N := by
 intro q hq; obtain rfl := List.mem_singleton.1 hq; exact h
theorem pad_length (w n : Nat) : (pad w n).length = 1 + zmax w n + w / 4 := by rw [← padTo_pad, padTo_len (Nat.le_refl _)]
theorem HSum256_any (w0 : World) (bh : Nat) (l : List UInt8) (X : List Blk) (hb : HB T256 w32 bh l X) (hl : l.length < 4611686018427387904) : FnX P 67 [.pointer (some ⟨bh, 0, none⟩)] w0 [] X (fun v Y => v = .agg ((sha T256 l).map byteV).toArray ∧ Y = X) := by
 obtain ⟨s, Lr, rfl, hs⟩ := hb
 have hln : (BitVec.ofNat 64 l.length).toNat = l.length := by rw [BitVec.toNat_ofNat]; exact Nat.mod_eq_of_lt zw
 have hzm := zmax_lt (w := 32) l.length ze
 have hrl := (absorb_rest T256 ze _ T256.init l (Nat.le_refl _)).1
 have hlr := hs
 refine FnX.of 52 [.cell 2 36] Go.Proofs.Tryz.func67 rfl rfl rfl rfl (fun G => ?_)
 rw [List.cons_append]
 refine zs ?_
 refine zc (T1.allocN 32 zr_36 rfl (fun b2 => ?_))
 refine TL.nil ?_
 refine T.seq (T.drawK (fun L_ => Find L_ ⟨bh, 0, s :: w64 (BitVec.ofNat 64 l.length) :: (stL (absorb T256 T256.init (l)).1).map w32, 10⟩) mixed z_A ?_)
 refine zk 1 rfl (fun k1_ => V1.move' z_C) ?_
 refine zk 2 rfl (fun k1_ => V1.nilCheck rfl) ?_
 refine zk 3 rfl (fun k1_ => V1.fieldAddr fl_173_0 rfl) ?_
 refine zk 4 rfl (fun k1_ => V1.fieldAddr fl_171_0 rfl) ?_
 refine zk 5 rfl (fun k1_ => V1.load1 one_44 rfl (.own z_A zr)) ?_
 refine zk 7 rfl (fun k1_ => V1.move' z_C) ?_
 refine zk 8 rfl (fun k1_ => V1.nilCheck rfl) ?_
 refine zk 9 rfl (fun k1_ => V1.fieldAddr fl_173_0 rfl) ?_
 refine zk 10 rfl (fun k1_ => V1.fieldAddr fl_171_1 rfl) ?_
 refine zk 11 rfl (fun k1_ => V1.load1 one_79 rfl (.own z_A zr)) ?_
 refine zk 13 rfl (fun k1_ => V1.move' z_C) ?_
 refine zk 14 rfl (fun k1_ => V1.nilCheck rfl) ?_
 refine zk 15 rfl (fun k1_ => V1.fieldAddr fl_173_1 rfl) ?_
 refine zk 16 rfl (fun k1_ => V1.loadN (vs := (stL (absorb T256 T256.init l).1).map w32) one_169 sz_169 rfl (RdN.sub (o := 2) (k := 8) (cells := s :: w64 (BitVec.ofNat 64 l.length) :: (stL (absorb T256 T256.init l).1).map w32) z_A) rfl) ?_
 refine zo 0 rfl rfl (T1.buildSl1 (os := []) ty_44 sz_5 zr_5 ze rfl .nil rfl (ones rfl) (fun b6 => ?_))
 refine ⟨z_A, zo 6 rfl rfl (T1.append ty_44 kd_44 sz_5 by_5 zr_5 rfl ze ze rfl rfl (Sl.mk (b := b6) (xs := []) (len := 0) (cap := 0) (size := 0) rfl (Nat.le_refl _) (Nat.le_refl _)) ((PartR.own (w0 := w0) (Ps := Lr) hs (fun _ h => h)).src _ rfl rfl _ (by intro B hB; simp only [List.mem_cons, List.mem_append]; simp [hB])) (one_bytes _) 128 (by simp only [List.length_map, List.length_nil]; omega) zw z_E (fun s1 Ls1 hs1 => ?_))⟩
 rw [List.nil_append] at hs1
 refine ⟨z_A, zk 12 rfl (fun k1_ => V1.buildF pl_171 zr_171 (.one rfl z_C hs1.one (.one rfl z_C rfl .nil)) z_I) ?_⟩
 refine zk 17 rfl (fun k1_ => V1.buildF pl_173 zr_173 (.many rfl z_C rfl (.many rfl z_C rfl .nil)) z_I) ?_
 refine zo 18 rfl rfl (T1.boxN 10 rfl rfl (fun b24 => ?_))
 refine ⟨z_A, zk 19 rfl (fun k1_ => V1.assign' z_C) ?_⟩
 refine TD.done z_F ?_
 refine T.seq (T.live (l := [(0, _), (2, _), (3, _)]) zT (fun e_ => ?_))
 refine zs ?_
 refine z0 (V1.nilCheck rfl) ?_
 refine z0 (V1.fieldAddr fl_173_0 rfl) ?_
 refine zc (T1.callX has_112 rfl (padding32_any _ bh s (BitVec.ofNat 64 l.length) _ (by rw [hln]; omega)) z_B (fun v Y hY => ?_))
 obtain ⟨Lp, hlp, rfl⟩ := hY
 rw [hln] at hlp
 simp only [List.append_assoc, List.cons_append, List.nil_append]
 refine zc (T1.buildSl1 (os := [.tmp 29]) ty_115 sz_44 zr_44 ze rfl (.cons z_C .nil) rfl (by intro u hu; obtain rfl := List.mem_singleton.1 hu; exact hlp.one) (fun b30 => ?_))
 refine zc (T1.callX has_66 rfl (Write256_any _ b24 _ l [pad 32 l.length] (⟨b24, 0, s1 :: w64 (BitVec.ofNat 64 l.length) :: (stL (absorb T256 T256.init (l)).1).map w32, 10⟩ :: Ls1) (⟨b30, 0, [v], 1⟩ :: Lp) ⟨s1, Ls1, rfl, hs1⟩ (PartsR.ones (svs := [v]) (size := 1) (by simp) rfl (one_part (PartR.own hlp (fun _ h => List.mem_cons_of_mem _ h)))) (one_len (by rw [pad_length]; omega)) (show 1 < 9223372036854775807 by decide)) z_B (fun v2 Y hY => ?_))
 obtain ⟨X', ⟨s', Lr', rfl, hs'⟩, rfl⟩ := hY
 obtain ⟨st, hst⟩ : ∃ z, z = (absorb T256 T256.init (l ++ [pad 32 l.length].flatten)).1 := ⟨_, rfl⟩
 rw [← hst]
 simp only [List.append_assoc, List.cons_append, List.nil_append]
 refine zs ?_
 refine zc (T1.allocN 32 zr_36 rfl (fun b4 => ?_))
 refine TL.nil ?_
 refine T.seq (T.seq (T.region (z1 ?_)))
 refine T.block (T.loopL (σ := Nat) (l0 := [(2, _), (3, _), (4, _)]) (fun x => [(32, .int .i64 (x : Nat))]) (fun x L => L = ⟨b4, 0, ((outB st).take x).map byteV ++ List.replicate (32 - x) (.int .u8 0), 32⟩ :: ⟨b24, 0, s' :: w64 (BitVec.ofNat 64 (l ++ [pad 32 l.length].flatten).length) :: (stL st).map w32, 10⟩ :: ⟨b2, 0, List.replicate 32 (.int .u8 0), 32⟩ :: ⟨bh, 0, s :: w64 (BitVec.ofNat 64 l.length) :: (stL (absorb T256 T256.init (l)).1).map w32, 10⟩ :: (Lr ++ G) ∧ x ≤ 32) (fun x => 32 - x) 0 (.cons rfl .nil) zT z_B (⟨rfl, Nat.zero_le _⟩) ?_)
 rintro i e_ L ⟨rfl, hi⟩
 refine zs ?_
 refine zc (T1.ltI_split rfl rfl (fun h5_0 => ?_) (fun h5_0 => ?_))
 ·
  refine zs ?_
  refine T.cond_t rfl (zs ?_)
  refine z0 (V1.quo (c := ((i / 4 : Nat) : Int)) rfl rfl zw (by rw [show ((i : Int).tdiv 4) = ((i / 4 : Nat) : Int) from tquoN i 4]; exact wrap_i64 _ zw zw)) ?_
  refine z0 (V1.nilCheck rfl) ?_
  refine z0 (V1.fieldAddr fl_173_1 rfl) ?_
  refine z0 (V1.indexAddrA ty_169 sz_37 rfl rfl zw zw) ?_
  refine zq (V1.load1 one_37 rfl (show Rd _ _ ⟨b24, 0 + 2 + (i / 4) * 1, none⟩ (w32 ((stL st).getD (i / 4) 0)) from by rw [show 0 + 2 + (i / 4) * 1 = 0 + (i / 4 + 2) from by omega]; exact Rd.at (cells := s' :: w64 (BitVec.ofNat 64 (l ++ [pad 32 l.length].flatten).length) :: (stL st).map w32) z_A (state32 zw))) ?_
  refine z0 (V1.rem (c := ((i % 4 : Nat) : Int)) rfl rfl zw (tmodN i 4)) ?_
  refine z0 (V1.mul (c := ((8 * (i % 4) : Nat) : Int)) rfl rfl z_J) ?_
  refine z0 (V1.sub (c := ((8 * (3 - i % 4) : Nat) : Int)) rfl rfl z_J) ?_
  refine z0 (V1.shrW u32U rfl rfl) ?_
  refine z0 (V1.convW 8 u8U ty_37 ty_5 rfl) ?_
  refine z0 (V1.indexAddrA ty_36 sz_5 rfl rfl zw zw) ?_
  refine zc (T1.storeE (o := 0 + i * 1) (cells := ((outB st).take i).map byteV ++ List.replicate (32 - i) (.int .u8 0)) (cells' := ((outB st).take (i + 1)).map byteV ++ List.replicate (32 - (i + 1)) (.int .u8 0)) rfl (congrArg (fun z : Nat => Value.int .u8 (z : Int)) (outbyte32 zw)) sz_5 rfl (by rw [show 0 + i * 1 - 0 = i from by omega]; exact fill_set 0 (outB_len _) zw) z_H (Nat.zero_le _) (by rw [List.length_append, List.length_map, List.length_take, List.length_replicate, outB_len]; omega) ?_)
  refine TL.nil ?_
  refine T.live (l := [(2, _), (3, _), (4, _), (32, _)]) zT (fun e_ => ?_)
  refine T.region (zq1 (V1.add rfl rfl (wrap_i64 _ zw zw)) ?_)
  exact ⟨i + 1, _, _, z_N, (.cons rfl .nil), (.cons rfl (.cons rfl (.cons rfl .nil))), z_B, ⟨rfl, by omega⟩⟩
 ·
  obtain rfl : i = 32 := by omega
  rw [fill_end (show (outB st).length = 32 from outB_len st)]
  refine zs ?_
  refine T.cond_f rfl (zs ?_)
  refine z0 (V1.loadN one_36 sz_36 rfl (RdN.whole z_A) (by rw [List.length_map, outB_len])) ?_
  refine zc (T1.storeN rfl rfl sz_36 (one_bytes _) z_H (by rw [List.length_map, outB_len, List.length_replicate]) (by rw [List.length_map, outB_len]) ?_)
  refine zs ?_
  exact ⟨_, ⟨bh, 0, s :: w64 (BitVec.ofNat 64 l.length) :: (stL (absorb T256 T256.init (l)).1).map w32, 10⟩ :: (Lr ++ G), _, .cons (.cellN z_C one_36 sz_36 (RdN.whole z_A) (by rw [List.length_map, outB_len])) .nil, z_B, ⟨bh, 0, s :: w64 (BitVec.ofNat 64 l.length) :: (stL (absorb T256 T256.init (l)).1).map w32, 10⟩ :: Lr, by rw [List.cons_append], by rw [hst]; simp only [sha, List.flatten_cons, List.flatten_nil, List.append_nil]; rfl, rfl⟩
theorem sha_len {w : Nat} (Tp : Sp w) (l : List UInt8) : (sha Tp l).length = 8 * (w / 8) := outB_len _
theorem Sum256_any (w0 : World) (v : Value) (ps : List (List UInt8)) (Ps : List Blk) (hp : PartsR w0 Ps v ps) (hlen : ∀ p ∈ ps, p.length ≤ 200000000000000) (hpn : ps.length < 9223372036854775807) (hfl : ps.flatten.length < 4611686018427387904) : FnX P 29 [v] w0 [] Ps (fun v Y => v = .agg ((sha T256 ps.flatten).map byteV).toArray ∧ Y = Ps) := by
 refine FnX.of 10 [.cell 2 36] Go.Proofs.Tryz.func29 rfl rfl rfl rfl (fun G => ?_)
 refine zs ?_
 refine zc (T1.allocN 32 zr_36 rfl (fun b2 => zs ?_))
 refine zc (T1.callN has_65 rfl (fun w hs => New256_any w) (fun v Y hY => ?_))
 obtain ⟨bh, rfl, hb⟩ := hY
 refine zs ?_
 refine zc (T1.callX has_66 rfl (Write256_any _ bh _ [] ps Y Ps hb hp hlen hpn) z_B (fun v2 Z hZ => ?_))
 obtain ⟨X', hx', rfl⟩ := hZ
 rw [List.nil_append] at hx'
 simp only [List.append_assoc]
 refine zs ?_
 refine zc (T1.callX has_67 rfl (HSum256_any _ bh ps.flatten X' hx' hfl) z_B (fun v3 Z hZ => ?_))
 obtain ⟨rfl, rfl⟩ := hZ
 refine zc (T1.storeN rfl rfl sz_36 (one_bytes _) z_H (by rw [List.length_map, sha_len]; rfl) (by rw [List.length_map, sha_len]) ?_)
 refine zs ?_
 exact ⟨_, Ps ++ G, _, .cons (.cellN z_C one_36 sz_36 (RdN.whole z_A) (by rw [List.length_map, sha_len])) .nil, z_B, Ps, rfl, rfl, rfl⟩
end Go.Proofs.YtfjedhmffccgnaaGreatDoor.S
