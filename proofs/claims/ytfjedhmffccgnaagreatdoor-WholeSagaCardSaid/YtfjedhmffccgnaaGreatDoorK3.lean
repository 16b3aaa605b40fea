/- What bytes leave modulo the order; one number times another and a third more; clamping. -/
import Derived.Test.YtfjedhmffccgnaaGreatDoorK2
namespace Go.Proofs.YtfjedhmffccgnaaGreatDoor.S
set_option maxRecDepth 100000
set_option maxHeartbeats 1000000
open Go.RowKit
open Ed
theorem of_to (w0 : World) (Ps : List Blk) {v : Value} (p : List UInt8) (L m : Nat) (hp : p.length = L) (hm : m = (L + 3) / 4) (hL : L ≤ 1000) (h : RowR w0 Ps 1 v L (p.map byteV)) : FnG P 85 [v] w0 Ps [] (fun v Y => RowR w0 Y 1 v m ((wsF m (leN p)).map w32)) := by
 subst hm; subst hp; exact of_any w0 Ps p h hL
theorem leN_32 {p : List UInt8} (h : p.length = 32) : leN p < 2 ^ (32 * 8) := by
 have := leN_lt p; rw [h] at this; exact Nat.lt_of_lt_of_le this z_F
theorem leN_64 {p : List UInt8} (h : p.length = 64) : leN p < 2 ^ (32 * 16) := by
 have := leN_lt p; rw [h] at this; exact Nat.lt_of_lt_of_le this z_F
theorem Lo_8 (n : Nat) : n % Lo < 2 ^ (32 * 8) := Nat.lt_trans (Nat.lt_trans (Nat.mod_lt _ Lo_pos) Lo_lt) z_F
def MRw (w0 : World) (n : Nat) (l : List (BitVec 32)) : Value → List Blk → Prop := fun v Y => ∃ u, v = u ∧ RowR w0 Y 1 u n (l.map w32)
theorem MRw.mono {w0 : World} {n : Nat} {l : List (BitVec 32)} (v : Value) (Y Z : List Blk) (h : MRw w0 n l v Y) : MRw w0 n l v (Z ++ Y) := by
 obtain ⟨u, h1, h2⟩ := h; exact ⟨u, h1, h2.more (Inc.skip Inc.refl)⟩
theorem mod_to (w0 : World) (Ps : List Blk) {v : Value} (n N R : Nat) (h : RowR w0 Ps 1 v n ((wsF n N).map w32)) (hN : N < 2 ^ (32 * n)) (hR : R = N % Lo) (h0 : 0 < n) (hn : n ≤ 100) : FnG P 88 [v] w0 Ps [] (fun v Y => RowR w0 Y 1 v 8 ((wsF 8 R).map w32)) := by
 have := mod_any w0 Ps n (wsF n N) h (wsF_len _ _) h0 hn
 rw [wsF_N n N hN, ← hR] at this; exact this
theorem bytes_to (w0 : World) (Ps : List Blk) {v : Value} (R : Nat) (h : RowR w0 Ps 1 v 8 ((wsF 8 R).map w32)) (hR : R < 2 ^ (32 * 8)) : FnV P 89 [v] w0 Ps (fun v => v = .agg ((leF R).map byteV).toArray) := by
 have := bytes_any w0 Ps (wsF 8 R) h (wsF_len _ _)
 rw [wsF_N 8 R hR] at this; exact this
theorem times_to (w0 : World) (Ps : List Blk) {v u : Value} (a b : Nat) (ha : a < 2 ^ (32 * 8)) (hb : b < 2 ^ (32 * 8)) (h : RowR w0 Ps 1 v 8 ((wsF 8 a).map w32)) (h2 : RowR w0 Ps 1 u 8 ((wsF 8 b).map w32)) : FnG P 86 [v, u] w0 Ps [] (fun v Y => RowR w0 Y 1 v 16 ((wsF 16 (a * b)).map w32)) := by
 have := times8_any w0 Ps (wsF 8 a) (wsF 8 b) h (wsF_len _ _) h2 (wsF_len _ _)
 rw [wsF_N 8 a ha, wsF_N 8 b hb] at this; exact this
set_option exponentiation.threshold 600 in
theorem prod_16 {a b : Nat} (ha : a < 2 ^ (32 * 8)) (hb : b < 2 ^ (32 * 8)) : a * b < 2 ^ (32 * 16) := by
 have := Nat.mul_lt_mul_of_lt_of_lt ha hb
 rw [← Nat.pow_add] at this; exact this
theorem sum_17 {a b : Nat} (ha : a < 2 ^ (32 * 16)) (hb : b < 2 ^ (32 * 8)) : a + b < 2 ^ (32 * 17) := by
 have : (2 : Nat) ^ (32 * 16) + 2 ^ (32 * 8) ≤ 2 ^ (32 * 17) := by decide +kernel
 exact Nat.lt_of_lt_of_le (Nat.add_lt_add ha hb) this
theorem plus_to (w0 : World) (Ps : List Blk) {v u : Value} (a b : Nat) (ha : a < 2 ^ (32 * 16)) (hb : b < 2 ^ (32 * 8)) (h : RowR w0 Ps 1 v 16 ((wsF 16 a).map w32)) (h2 : RowR w0 Ps 1 u 8 ((wsF 8 b).map w32)) : FnG P 87 [v, u] w0 Ps [] (fun v Y => RowR w0 Y 1 v 17 ((wsF 17 (a + b)).map w32)) := by
 have := plus16_any w0 Ps (wsF 16 a) (wsF 8 b) h (wsF_len _ _) h2 (wsF_len _ _)
 rw [wsF_N 16 a ha, wsF_N 8 b hb] at this; exact this
theorem less_to (w0 : World) (Ps : List Blk) {v u : Value} (a b : Nat) (ha : a < 2 ^ (32 * 8)) (hb : b < 2 ^ (32 * 8)) (h : RowR w0 Ps 1 v 8 ((wsF 8 a).map w32)) (h2 : RowR w0 Ps 1 u 8 ((wsF 8 b).map w32)) : FnV P 108 [v, u] w0 Ps (fun v => v = .bool (decide (a < b))) := by
 have := less_any w0 Ps (wsF 8 a) (wsF 8 b) h (wsF_len _ _) h2 (wsF_len _ _)
 rw [wsF_N 8 a ha, wsF_N 8 b hb] at this; exact this
theorem Lo_256 : Lo < 2 ^ (32 * 8) := Nat.lt_trans Lo_lt z_F
theorem clampL_len' {k : List UInt8} (hk : k.length = 32) : (clampL k).length = 32 := by rw [clampL_len]; exact hk
theorem getD_set0 (l : List UInt8) (x : UInt8) : (l.set 0 x).getD 31 0 = l.getD 31 0 := by
 rw [List.getD_eq_getElem?_getD, List.getElem?_set_ne ze, List.getD_eq_getElem?_getD]
theorem Canonical_any (w0 : World) (k : List UInt8) (hk : k.length = 32) : FnV P 62 [.agg (k.map byteV).toArray] w0 [] (fun v => v = .bool (decide (leN k < Lo))) := by
 refine FnV.of 7 [.tmp 2] Go.Proofs.Tryz.func62 rfl rfl rfl rfl (fun G hG => ?_)
 refine zs ?_
 refine zc (T1.boxN (vs := (k).map byteV) 32 rfl (by rw [List.length_map, hk]) (fun b1 => zs ?_))
 refine z0 (V1.sliceA ty_36 sz_5 rfl rfl rfl ze ze ze) ?_
 refine zc (T1.callC has_85 rfl rfl (of_to w0 [⟨b1, 0, (k).map byteV, 32⟩] k 32 8 hk rfl ze (RowR.own (List.mem_cons_self ..) ((List.length_map ..).trans (hk.trans rfl)))) z_D (fun v1 Y1 h1 => ?_))
 refine zc (T1.callC has_109 rfl rfl (order_any w0) z_D (fun v2 Y2 h2 => ?_))
 refine zc (T1.callV has_108 rfl rfl (less_to w0 (Y2 ++ Y1) (leN k) Lo (leN_32 hk) Lo_256 (h1.more (Inc.skip Inc.refl)) (h2.more Inc.here)) z_D (fun v_ hv => ?_))
 obtain rfl := hv
 refine zs ?_
 exact ⟨_, G, _, .cons (.tmp z_C) .nil, z_B, rfl, rfl⟩
theorem Clamp_any (k : List UInt8) (hk : k.length = 32) (w : World) : Fn P 55 [.agg (k.map byteV).toArray] w [] (fun v Y => Y = [] ∧ v = .agg ((clampL k).map byteV).toArray) := by
 refine Fn.of 13 [.cell 2 36] Go.Proofs.Tryz.func55 rfl rfl rfl rfl ?_
 refine zs ?_
 refine zc (T1.boxN (vs := (k).map byteV) 32 rfl (by rw [List.length_map, hk]) (fun b1 => ?_))
 refine zc (T1.allocN 32 zr_36 rfl (fun b2 => zs ?_))
 refine z0 (V1.indexAddrA ty_36 sz_5 rfl rfl ze ze) ?_
 refine z0 (V1.load1 one_5 rfl (show Rd _ _ ⟨b1, 0 + 0 * 1, none⟩ (byteV (k.getD 0 0)) from Rd.at z_A (bytes_get (by rw [hk]; decide)))) ?_
 refine z0 (V1.andW (a := (k.getD 0 0).toBitVec) (b := 248#8) u8U rfl rfl) ?_
 refine z0 (V1.indexAddrA ty_36 sz_5 rfl rfl ze ze) ?_
 refine zc (T1.storeE (o := 0 + 0 * 1) (cells := k.map byteV) (cells' := (k.set 0 (UInt8.ofBitVec ((k.getD 0 0).toBitVec &&& 248#8))).map byteV) rfl rfl sz_5 rfl (by rw [show 0 + 0 * 1 - 0 = 0 from rfl, List.map_set]; rfl) z_H (Nat.zero_le _) (by rw [List.length_map, hk]; decide) ?_)
 refine zs ?_
 refine z0 (V1.indexAddrA ty_36 sz_5 rfl rfl ze ze) ?_
 refine z0 (V1.load1 one_5 rfl (show Rd _ _ ⟨b1, 0 + 31 * 1, none⟩ (byteV (k.getD 31 0)) from Rd.at z_A (by rw [← getD_set0 k (UInt8.ofBitVec ((k.getD 0 0).toBitVec &&& 248#8))]; exact bytes_get (by rw [List.length_set, hk]; decide)))) ?_
 refine z0 (V1.andW (a := (k.getD 31 0).toBitVec) (b := 127#8) u8U rfl rfl) ?_
 refine z0 (V1.orW (a := (k.getD 31 0).toBitVec &&& 127#8) (b := 64#8) u8U rfl rfl) ?_
 refine z0 (V1.indexAddrA ty_36 sz_5 rfl rfl ze ze) ?_
 refine zc (T1.storeE (o := 0 + 31 * 1) (cells := (k.set 0 (UInt8.ofBitVec ((k.getD 0 0).toBitVec &&& 248#8))).map byteV) (cells' := (clampL k).map byteV) rfl rfl sz_5 rfl (by unfold clampL; exact (List.map_set (f := byteV) (l := k.set 0 (k.getD 0 0 &&& 248)) (i := 31) (a := (k.getD 31 0 &&& 127) ||| 64)).symm) z_H (Nat.zero_le _) (by rw [List.length_map, List.length_set, hk]; decide) ?_)
 refine zs ?_
 refine z0 (V1.loadN (vs := (clampL k).map byteV) one_36 sz_36 rfl (RdN.whole z_A) (by rw [List.length_map, clampL_len' hk])) ?_
 refine zc (T1.storeN rfl rfl sz_36 (one_bytes _) z_H (by rw [List.length_map, clampL_len' hk]; rfl) (by rw [List.length_map, clampL_len' hk]) ?_)
 refine zs ?_
 exact ⟨_, [], _, .cons (.cellN z_C one_36 sz_36 (RdN.whole z_A) (by rw [List.length_map, clampL_len' hk])) .nil, Take.nil, rfl, rfl⟩
theorem MulAdd_any (w0 : World) (a b c : List UInt8) (ha : a.length = 32) (hb : b.length = 32) (hc : c.length = 32) (R : Nat) (hR : R = (leN a * leN b + leN c) % Lo) : FnV P 46 [.agg (a.map byteV).toArray, .agg (b.map byteV).toArray, .agg (c.map byteV).toArray] w0 [] (fun v => v = .agg ((leF R).map byteV).toArray) := by
 refine FnV.of 17 [.cell 6 36] Go.Proofs.Tryz.func46 rfl rfl rfl rfl (fun G hG => ?_)
 refine zs ?_
 refine zc (T1.boxN (vs := (a).map byteV) 32 rfl (by rw [List.length_map, ha]) (fun b3 => ?_))
 refine zc (T1.boxN (vs := (b).map byteV) 32 rfl (by rw [List.length_map, hb]) (fun b4 => ?_))
 refine zc (T1.boxN (vs := (c).map byteV) 32 rfl (by rw [List.length_map, hc]) (fun b5 => ?_))
 refine zc (T1.allocN 32 zr_36 rfl (fun b6 => ?_))
 refine TL.nil ?_
 refine T.seq (T.drawM (FL [MV (.slice (some ⟨b3, 0, none⟩) 32 32), MRw w0 8 (wsF 8 (leN a)), MV (.slice (some ⟨b4, 0, none⟩) 32 32), MRw w0 8 (wsF 8 (leN b)), MRw w0 16 (wsF 16 (leN a * leN b)), MV (.slice (some ⟨b5, 0, none⟩) 32 32), MRw w0 8 (wsF 8 (leN c)), MRw w0 17 (wsF 17 (leN a * leN b + leN c)), MRw w0 8 (wsF 8 (R)), MV (.agg ((leF R).map byteV).toArray), MT]) 10 mixed z_F z_F (FMono.at (.cons MV.mono (.cons MRw.mono (.cons MV.mono (.cons MRw.mono (.cons MRw.mono (.cons MV.mono (.cons MRw.mono (.cons MRw.mono (.cons MRw.mono (.cons MV.mono (.cons MT.mono .nil)))))))))))) ?_ ?_)
 ·
  refine zm (zS 3 zE) (V1.sliceA ty_36 sz_5 rfl rfl rfl ze ze ze) ?_
  refine zt (zP 0 7 rfl zE) (fun e_ Y_ => T1.callC has_85 rfl rfl (of_to w0 [⟨b3, 0, (a).map byteV, 32⟩] a 32 8 ha rfl ze (RowR.own (List.mem_cons_self ..) ((List.length_map ..).trans (ha.trans rfl)))) z_D (fun v_ Yn hY => ?_)) ?_
  ·
   exact ⟨_, Yn, rfl, rfl, ⟨_, rfl, hY.more Inc.here⟩⟩
  refine zm (zS 4 zE) (V1.sliceA ty_36 sz_5 rfl rfl rfl ze ze ze) ?_
  refine zt (zP 2 9 rfl zE) (fun e_ Y_ => T1.callC has_85 rfl rfl (of_to w0 [⟨b4, 0, (b).map byteV, 32⟩] b 32 8 hb rfl ze (RowR.own (List.mem_cons_self ..) ((List.length_map ..).trans (hb.trans rfl)))) z_D (fun v_ Yn hY => ?_)) ?_
  ·
   exact ⟨_, Yn, rfl, rfl, ⟨_, rfl, hY.more Inc.here⟩⟩
  refine MOps.cons (fun e_ Y_ hp_ hs_ => ?_) ?_
  ·
   obtain ⟨u8, h8, f8⟩ := (show (MRw w0 8 (wsF 8 (leN a))) (e_ 8) Y_ from hp_ 1 8 zr zr)
   obtain ⟨u10, h10, f10⟩ := (show (MRw w0 8 (wsF 8 (leN b))) (e_ 10) Y_ from hp_ 3 10 zr zr)
   refine MOp.of (tr := [(8, _), (10, _)]) (.cons h8 (.cons h10 .nil)) ?_
   refine T1.callC has_86 rfl rfl (times_to w0 Y_ (leN a) (leN b) (leN_32 ha) (leN_32 hb) f8 f10) z_D (fun v_ Yn hY => ?_)
   exact ⟨_, Yn, rfl, rfl, ⟨_, rfl, hY.more Inc.here⟩⟩
  refine zm (zS 5 zE) (V1.sliceA ty_36 sz_5 rfl rfl rfl ze ze ze) ?_
  refine zt (zP 5 12 rfl zE) (fun e_ Y_ => T1.callC has_85 rfl rfl (of_to w0 [⟨b5, 0, (c).map byteV, 32⟩] c 32 8 hc rfl ze (RowR.own (List.mem_cons_self ..) ((List.length_map ..).trans (hc.trans rfl)))) z_D (fun v_ Yn hY => ?_)) ?_
  ·
   exact ⟨_, Yn, rfl, rfl, ⟨_, rfl, hY.more Inc.here⟩⟩
  refine MOps.cons (fun e_ Y_ hp_ hs_ => ?_) ?_
  ·
   obtain ⟨u11, h11, f11⟩ := (show (MRw w0 16 (wsF 16 (leN a * leN b))) (e_ 11) Y_ from hp_ 4 11 zr zr)
   obtain ⟨u13, h13, f13⟩ := (show (MRw w0 8 (wsF 8 (leN c))) (e_ 13) Y_ from hp_ 6 13 zr zr)
   refine MOp.of (tr := [(11, _), (13, _)]) (.cons h11 (.cons h13 .nil)) ?_
   refine T1.callC has_87 rfl rfl (plus_to w0 Y_ (leN a * leN b) (leN c) (prod_16 (leN_32 ha) (leN_32 hb)) (leN_32 hc) f11 f13) z_D (fun v_ Yn hY => ?_)
   exact ⟨_, Yn, rfl, rfl, ⟨_, rfl, hY.more Inc.here⟩⟩
  refine MOps.cons (fun e_ Y_ hp_ hs_ => ?_) ?_
  ·
   obtain ⟨u14, h14, f14⟩ := (show (MRw w0 17 (wsF 17 (leN a * leN b + leN c))) (e_ 14) Y_ from hp_ 7 14 zr zr)
   refine MOp.of (tr := [(14, _)]) (.cons h14 .nil) ?_
   refine T1.callC has_88 rfl rfl (mod_to w0 Y_ 17 (leN a * leN b + leN c) R f14 (sum_17 (prod_16 (leN_32 ha) (leN_32 hb)) (leN_32 hc)) hR ze ze) z_D (fun v_ Yn hY => ?_)
   exact ⟨_, Yn, rfl, rfl, ⟨_, rfl, hY.more Inc.here⟩⟩
  refine MOps.cons (fun e_ Y_ hp_ hs_ => ?_) ?_
  ·
   obtain ⟨u15, h15, f15⟩ := (show (MRw w0 8 (wsF 8 (R))) (e_ 15) Y_ from hp_ 8 15 zr zr)
   refine MOp.of (tr := [(15, _)]) (.cons h15 .nil) ?_
   refine T1.callV has_89 rfl rfl (bytes_to w0 Y_ R f15 (by rw [hR]; exact Lo_8 _)) z_D (fun v_ hv => ?_)
   obtain rfl := hv
   exact ⟨_, [], rfl, rfl, rfl⟩
  refine MOps.last ?_
  exact MOps.nil
 ·
  intro e_ Y_ hp_ hs_
  refine T1.known (tr := [(6, _), (16, _)]) (.cons ((hs_ 6 zr).trans z_C) (.cons (hp_ 9 16 ze zr) .nil)) ?_
  refine T1.storeN rfl rfl sz_36 (one_bytes _) z_H z_Q z_M ?_
  refine T.ret ?_
  exact ⟨_, G, _, .cons (.cellN z_C one_36 sz_36 (RdN.whole z_A) z_M) .nil, z_B, rfl, rfl⟩
theorem Reduce_any (w0 : World) (Ps : List Blk) (p : List UInt8) {vp : Value} {bl ol cc : Nat} (hl : p.length = 64) (hp : RowR w0 Ps 1 vp 64 (p.map byteV)) (hrd : ∀ C : Ctx, C.w0 = w0 → C.M = [] → ∀ L, Inc Ps L → Rd C L ⟨bl, ol, none⟩ vp) (R : Nat) (hR : R = leN p % Lo) : FnV P 84 [.slice (some ⟨bl, ol, none⟩) 1 cc] w0 Ps (fun v => v = .agg ((leF R).map byteV).toArray) := by
 refine FnV.of 20 [.cell 2 36] Go.Proofs.Tryz.func84 rfl rfl rfl rfl (fun G hG => ?_)
 refine zs ?_
 refine zc (T1.allocN 32 zr_36 rfl (fun b2 => zs ?_))
 refine zq1 (V1.lenSl ty_115 rfl) ?_
 refine T.block (T.rounds 2 (TR.step ?_))
 refine zs ?_
 refine zq (V1.ltI rfl rfl (decide_eq_true ze)) ?_
 refine T.cond_t rfl (zs ?_)
 refine z0 (V1.indexAddrS ty_115 sz_44 rfl rfl ze ze) ?_
 refine zq (V1.load1 one_44 rfl (show Rd _ _ ⟨bl, ol + 0 * 1, none⟩ vp from hrd _ rfl rfl _ z_D)) ?_
 refine zc (T1.append ty_44 kd_44 sz_5 by_5 zr_5 rfl ze ze rfl rfl Sl.nil (hp.src _ rfl rfl _ z_D) (one_bytes p) 1000 (by rw [List.length_map, hl]; decide) ze z_E (fun s1 Ls1 hs1 => ?_))
 rw [List.nil_append] at hs1
 refine zs ?_
 refine zq1 (V1.add (c := 1) rfl rfl ze) ?_
 refine TR.step ?_
 refine T.seq (T.live (l := [(2, _), (3, _), (6, _), (7, _), (8, _)]) zT (fun e_ => ?_))
 refine T.region (zq (V1.ltI rfl rfl (decide_eq_false ze)) ?_)
 refine T.cond_f rfl (zs ?_)
 refine zc (T1.callC has_85 rfl rfl (of_to w0 Ls1 p 64 16 hl rfl ze (RowR.ofSl hs1 Inc.refl ze 64 (by rw [List.length_map, hl]))) z_D (fun v1 Y1 h1 => ?_))
 refine zc (T1.callC has_88 rfl rfl (mod_to w0 Y1 16 (leN p) R h1 (leN_64 hl) hR ze ze) z_D (fun v2 Y2 h2 => ?_))
 refine zc (T1.callV has_89 rfl rfl (bytes_to w0 Y2 R h2 (by rw [hR]; exact Lo_8 _)) z_D (fun v_ hv => ?_))
 obtain rfl := hv
 refine zc (T1.storeN rfl rfl sz_36 (one_bytes _) z_H z_Q z_M ?_)
 refine zs ?_
 exact ⟨_, G, _, .cons (.cellN z_C one_36 sz_36 (RdN.whole z_A) z_M) .nil, z_B, rfl, rfl⟩
end Go.Proofs.YtfjedhmffccgnaaGreatDoor.S
