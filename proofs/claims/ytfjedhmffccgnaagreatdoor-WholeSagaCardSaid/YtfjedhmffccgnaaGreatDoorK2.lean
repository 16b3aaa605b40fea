/- Products and sums of words; what is left modulo the order. -/
import Derived.Test.YtfjedhmffccgnaaGreatDoorK1
import Derived.Test.YtfjedhmffccgnaaGreatDoorOpsM
namespace Go.Proofs.YtfjedhmffccgnaaGreatDoor.S
set_option maxRecDepth 100000
set_option maxHeartbeats 1000000
open Go.RowKit
open Ed
theorem word_zero {l : List (BitVec 32)} {j : Nat} (hj : j < l.length) (h : wsN l < 2 ^ (32 * j)) : l.getD j 0 = 0 := by
 conv => lhs; rw [← ws_wsN l, ws_getD hj]
 rw [Nat.div_eq_of_lt h]; rfl
theorem one_w32 (l : List (BitVec 32)) : ∀ u ∈ l.map w32, one u = true := fun u hu => by obtain ⟨c, _, rfl⟩ := List.mem_map.1 hu; rfl
theorem drop_set {a rl : List (BitVec 32)} {k : Nat} {x : BitVec 32} (ha : a.length = k) (hk : k < rl.length) : (a ++ rl.drop k).set k x = (a ++ [x]) ++ rl.drop (k + 1) := by
 rw [List.set_append, ha, if_neg zw, Nat.sub_self, List.drop_eq_getElem_cons hk, List.set_cons_zero, List.append_assoc]; rfl
theorem drop_get {a rl : List (BitVec 32)} {k : Nat} (ha : a.length = k) (hk : k < rl.length) : ((a ++ rl.drop k).map w32)[k]? = some (w32 (rl.getD k 0)) := by
 rw [List.getElem?_map, List.getElem?_append_right zw, ha, Nat.sub_self, List.drop_eq_getElem_cons hk, List.getD_eq_getElem?_getD, List.getElem?_eq_getElem hk]; rfl
def mac64 (c : BitVec 64) (x a b : BitVec 32) : BitVec 64 := c + (x.setWidth 64 + a.setWidth 64 * b.setWidth 64)
theorem mac64_nat {c : BitVec 64} {x a b : BitVec 32} (hc : c.toNat < 2 ^ 32) : (mac64 c x a b).toNat = c.toNat + x.toNat + a.toNat * b.toNat := by
 unfold mac64
 have hx := x.isLt; have ha := a.isLt; have hb := b.isLt
 have hm : a.toNat * b.toNat ≤ (2 ^ 32 - 1) * (2 ^ 32 - 1) := Nat.mul_le_mul zw zw
 have e1 : (a.setWidth 64 * b.setWidth 64).toNat = a.toNat * b.toNat := by
  rw [BitVec.toNat_mul, BitVec.toNat_setWidth, BitVec.toNat_setWidth, Nat.mod_eq_of_lt (show a.toNat < 2 ^ 64 by omega), Nat.mod_eq_of_lt (show b.toNat < 2 ^ 64 by omega), Nat.mod_eq_of_lt (by omega)]
 have e2 : (x.setWidth 64).toNat = x.toNat := by rw [BitVec.toNat_setWidth, Nat.mod_eq_of_lt (by omega)]
 rw [BitVec.toNat_add, BitVec.toNat_add, e1, e2, Nat.mod_eq_of_lt (a := x.toNat + _) zw, Nat.mod_eq_of_lt zw, Nat.add_assoc]
theorem mac64_hi {c : BitVec 64} {x a b : BitVec 32} : (mac64 c x a b >>> 32).toNat < 2 ^ 32 := by
 rw [BitVec.toNat_ushiftRight, Nat.shiftRight_eq_div_pow]; have := (mac64 c x a b).isLt; omega
theorem times_step {ol l m : List (BitVec 32)} {c : BitVec 64} {i k : Nat} (ho : ol.length = 16) (hm : m.length = 8) (hi : i < 8) (hk : k < 8) (hc : c.toNat < 2 ^ 32)
 (h : wsN ol + 2 ^ (32 * (i + k)) * c.toNat = wsN (l.take i) * wsN m + 2 ^ (32 * i) * ((l.getD i 0).toNat * wsN (m.take k))) :
 wsN (ol.set (i + k) ((mac64 c (ol.getD (i + k) 0) (l.getD i 0) (m.getD k 0)).setWidth 32)) + 2 ^ (32 * (i + (k + 1))) * (mac64 c (ol.getD (i + k) 0) (l.getD i 0) (m.getD k 0) >>> 32).toNat = wsN (l.take i) * wsN m + 2 ^ (32 * i) * ((l.getD i 0).toNat * wsN (m.take (k + 1))) := by
 have e := mac64_nat (x := ol.getD (i + k) 0) (a := l.getD i 0) (b := m.getD k 0) hc
 have hs : c.toNat + (ol.getD (i + k) 0).toNat + (l.getD i 0).toNat * (m.getD k 0).toNat = (mac64 c (ol.getD (i + k) 0) (l.getD i 0) (m.getD k 0)).toNat % 4294967296 + 4294967296 * ((mac64 c (ol.getD (i + k) 0) (l.getD i 0) (m.getD k 0)).toNat / 4294967296) := by rw [← e]; omega
 have r := mul_step (v := (mac64 c (ol.getD (i + k) 0) (l.getD i 0) (m.getD k 0)).setWidth 32) (by omega : i + k < ol.length) (by rw [BitVec.toNat_setWidth]) hs h
 have es : (mac64 c (ol.getD (i + k) 0) (l.getD i 0) (m.getD k 0) >>> 32).toNat = (mac64 c (ol.getD (i + k) 0) (l.getD i 0) (m.getD k 0)).toNat / 4294967296 := by rw [BitVec.toNat_ushiftRight, Nat.shiftRight_eq_div_pow]
 rw [es, ← Nat.add_assoc i k 1, r, wsN_take zw, Nat.mul_add (l.getD i 0).toNat, Nat.mul_add (2 ^ (32 * i)), ← Nat.add_assoc, Nat.mul_add 32 i k, Nat.pow_add]
 congr 1
 rw [Nat.mul_assoc, Nat.mul_left_comm (2 ^ (32 * k))]
theorem times_row {ol l m : List (BitVec 32)} {c : BitVec 64} {i : Nat} (ho : ol.length = 16) (hl : l.length = 8) (hm : m.length = 8) (hi : i < 8) (hc : c.toNat < 2 ^ 32) (hz : ol.getD (i + 8) 0 = 0)
 (h : wsN ol + 2 ^ (32 * (i + 8)) * c.toNat = wsN (l.take i) * wsN m + 2 ^ (32 * i) * ((l.getD i 0).toNat * wsN (m.take 8))) :
 wsN (ol.set (i + 8) (c.setWidth 32)) = wsN (l.take (i + 1)) * wsN m := by
 have e := wsN_set (v := c.setWidth 32) (by omega : i + 8 < ol.length)
 rw [hz, show (0 : BitVec 32).toNat = 0 from rfl, Nat.mul_zero, Nat.add_zero, BitVec.toNat_setWidth, Nat.mod_eq_of_lt hc, h, List.take_of_length_le (show m.length ≤ 8 by omega)] at e
 rw [e, wsN_take zw, Nat.add_mul, Nat.mul_assoc]
theorem times_zero {ol l m : List (BitVec 32)} {i : Nat} (ho : ol.length = 16) (hl : l.length = 8) (hm : m.length = 8) (hi : i < 8) (h : wsN ol = wsN (l.take i) * wsN m) : ol.getD (i + 8) 0 = 0 := by
 refine word_zero zw ?_
 have h1 := wsN_lt (l.take i)
 have h2 := wsN_lt m
 rw [List.length_take, Nat.min_eq_left (by omega)] at h1
 rw [hm] at h2
 rw [h, Nat.mul_add, Nat.pow_add]
 exact Nat.mul_lt_mul_of_lt_of_lt h1 h2
theorem plus_step {a l m : List (BitVec 32)} {c x : BitVec 32} {i : Nat} (hl : l.length = 16) (hm : m.length = 8) (ha : a.length = i) (hi : i < 17) (hx : x = if i < 8 then m.getD i 0 else 0)
 (h : wsN a + 2 ^ (32 * i) * c.toNat = wsN ((l ++ [0]).take i) + wsN (m.take i)) :
 wsN (a ++ [(sum32 ((l ++ [0]).getD i 0) x c).setWidth 32]) + 2 ^ (32 * (i + 1)) * ((sum32 ((l ++ [0]).getD i 0) x c >>> 32).setWidth 32).toNat = wsN ((l ++ [0]).take (i + 1)) + wsN (m.take (i + 1)) := by
 have r := add_step (rl := l ++ [0]) ha (by rw [List.length_append, hl]; exact hi) (sum32_spec ((l ++ [0]).getD i 0) x c) h
 rw [r]
 congr 1
 by_cases h8 : i < 8
 · rw [hx, if_pos h8, wsN_take (by omega)]
 · rw [hx, if_neg h8, List.take_of_length_le zw, List.take_of_length_le zw, show (0 : BitVec 32).toNat = 0 from rfl, Nat.mul_zero, Nat.add_zero]
set_option exponentiation.threshold 600 in
theorem plus_end {a l m : List (BitVec 32)} {c : BitVec 32} (hl : l.length = 16) (hm : m.length = 8) (ha : a.length = 17) (h : wsN a + 2 ^ (32 * 17) * c.toNat = wsN ((l ++ [0]).take 17) + wsN (m.take 17)) : a = wsF 17 (wsN l + wsN m) := by
 rw [List.take_of_length_le (by rw [List.length_append, hl]; exact Nat.le_refl _), List.take_of_length_le zw, wsN_snoc, show (0 : BitVec 32).toNat = 0 from rfl, Nat.mul_zero, Nat.add_zero] at h
 have h1 := wsN_lt l; have h2 := wsN_lt m
 rw [hl] at h1; rw [hm] at h2
 refine wsF_of ha ?_
 rcases Nat.eq_zero_or_pos c.toNat with e | e
 · rw [e, Nat.mul_zero, Nat.add_zero] at h; exact h
 ·
  have h4 : 2 ^ (32 * 17) * 1 ≤ 2 ^ (32 * 17) * c.toNat := Nat.mul_le_mul_left _ e
  have : (2 : Nat) ^ (32 * 16) + 2 ^ (32 * 8) ≤ 2 ^ (32 * 17) := by decide +kernel
  omega
theorem Lo_lt : Lo < 2 ^ 253 := by decide +kernel
theorem Lo_pos : 0 < Lo := by decide +kernel
theorem mod_dbl {l a rl : List (BitVec 32)} {c : BitVec 32} {i b : Nat} (hb : b = wsN l / 2 ^ i % 2) (hrl : rl.length = 8) (hr : wsN rl = wsN l / 2 ^ (i + 1) % Lo) (h : wsN a + 2 ^ (32 * 8) * c.toNat = 2 * wsN (rl.take 8) + b) : wsN a = 2 * (wsN l / 2 ^ (i + 1) % Lo) + b := by
 rw [List.take_of_length_le zw, hr] at h
 have := Nat.mod_lt (wsN l / 2 ^ (i + 1)) Lo_pos
 have hL := Lo_lt
 have hb2 : b ≤ 1 := by have := Nat.mod_lt (wsN l / 2 ^ i) (show 2 > 0 by decide); omega
 rcases Nat.eq_zero_or_pos c.toNat with e | e
 · rw [e, Nat.mul_zero, Nat.add_zero] at h; exact h
 ·
  have h4 : 2 ^ (32 * 8) * 1 ≤ 2 ^ (32 * 8) * c.toNat := Nat.mul_le_mul_left _ e
  have : (2 : Nat) ^ 253 * 2 + 2 ≤ 2 ^ (32 * 8) := by decide +kernel
  omega
theorem mod_end {l a d : List (BitVec 32)} {c : BitVec 32} {i b : Nat} (hb : b = wsN l / 2 ^ i % 2) (ha : wsN a = 2 * (wsN l / 2 ^ (i + 1) % Lo) + b) (hla : a.length = 8) (hld : d.length = 8) (hc : c.toNat ≤ 1) (h : wsN d + wsN ((wsF 8 Lo).take 8) = wsN (a.take 8) + 2 ^ (32 * 8) * c.toNat) :
 (c.toNat = 0 → wsN d = wsN l / 2 ^ i % Lo) ∧ (c.toNat ≠ 0 → wsN a = wsN l / 2 ^ i % Lo) := by
 rw [List.take_of_length_le (by rw [wsF_len]; exact Nat.le_refl _), List.take_of_length_le zw, wsF_N 8 Lo (Nat.lt_trans Lo_lt z_F), ha] at h
 have hb2 : b ≤ 1 := by have := Nat.mod_lt (wsN l / 2 ^ i) (show 2 > 0 by decide); omega
 have m := mod_step (X := wsN l / 2 ^ (i + 1)) Lo_pos rfl hb2
 rw [hb, ← half_bit, ← hb] at m
 have ld := wsN_lt d; rw [hld] at ld
 constructor
 ·
  intro e
  rw [e, Nat.mul_zero, Nat.add_zero] at h
  rw [m, if_neg (by omega)]; omega
 ·
  intro e
  rw [show c.toNat = 1 by omega, Nat.mul_one] at h
  rw [m, ha, if_pos (by omega)]
theorem div_all {l : List (BitVec 32)} {n : Nat} (h : l.length = n) : wsN l / 2 ^ (32 * n) % Lo = 0 := by
 have := wsN_lt l
 rw [h] at this
 rw [Nat.div_eq_of_lt this]; rfl
theorem times8_any (w0 : World) (Ps : List Blk) {v u : Value} (l m : List (BitVec 32)) (h : RowR w0 Ps 1 v 8 (l.map w32)) (hl : l.length = 8) (h2 : RowR w0 Ps 1 u 8 (m.map w32)) (hm : m.length = 8) : FnG P 86 [v, u] w0 Ps [] (fun v Y => RowR w0 Y 1 v 16 ((wsF 16 (wsN l * wsN m)).map w32)) := by
 obtain ⟨a_, c_, rfl⟩ := h.form
 obtain ⟨a2_, c2_, rfl⟩ := h2.form
 obtain ⟨bl, ol_, rfl, hrd⟩ := h.at ze P
 obtain ⟨bm, om_, rfl, hrm⟩ := h2.at ze P
 refine FnG.of 66 [.tmp 4] Go.Proofs.Tryz.func86 rfl rfl rfl rfl (fun G hG => ?_)
 refine zs ?_
 refine zq (V1.lenSl ty_148 rfl) ?_
 refine z0 (V1.lenSl ty_148 rfl) ?_
 refine z0 (V1.add (c := 16) rfl rfl ze) ?_
 refine zc (T1.make1 (16) (16) ty_148 sz_37 by_37 zr_37 rfl rfl rfl ze ze ze (fun b16 => zs ?_))
 refine zq1 (V1.lenSl ty_148 rfl) ?_
 refine T.block (T.loopL (σ := Nat × List (BitVec 32)) (l0 := [(1, _), (5, _), (17, _), (18, _)]) (fun x => [(19, .int .i64 (x.1 : Nat))]) (fun x L => L = ⟨b16, 0, (x.2).map w32, 16⟩ :: G ∧ x.1 ≤ 8 ∧ x.2.length = 16 ∧ wsN x.2 = wsN (l.take x.1) * wsN m) (fun x => 8 - x.1) (0, List.replicate 16 0) (.cons rfl .nil) zT z_B (⟨(rfl : (⟨b16, 0, List.replicate 16 (Value.int .u32 0), 16⟩ :: G : List Blk) = ⟨b16, 0, (List.replicate 16 0).map w32, 16⟩ :: G), Nat.zero_le _, rfl, by rw [wsN_zero, List.take_zero, show wsN [] = 0 from rfl, Nat.zero_mul]⟩) ?_)
 rintro ⟨i, ol⟩ e_ L ⟨rfl, hi, ho, hN⟩
 simp only at hi ho hN
 refine zs ?_
 refine zc (T1.ltI_split rfl rfl (fun h3 => ?_) (fun h3 => ?_))
 ·
  have hi8 : i < 8 := by omega
  have hzz := times_zero ho hl hm hi8 hN
  refine zs ?_
  refine T.cond_t rfl (zs ?_)
  refine z0 (V1.indexAddrS ty_148 sz_37 rfl rfl zw zw) ?_
  refine zq1 (V1.load1 one_37 rfl (show Rd _ _ ⟨bl, ol_ + i * 1, none⟩ (w32 (l.getD i 0)) from by rw [Nat.mul_one]; exact hrd _ rfl rfl _ z_D _ _ (w32_get zw))) ?_
  refine T.seq (T.region (zq (V1.assign' (v := w64 0#64) rfl) ?_))
  refine zq1 (V1.lenSl ty_148 rfl) ?_
  refine T.block (T.loopL (σ := Nat × List (BitVec 32) × BitVec 64) (l0 := [(1, _), (5, _), (6, _), (7, _), (17, _), (18, _), (19, _), (24, _), (25, _)]) (fun x => [(26, .int .i64 (x.1 : Nat)), (8, w64 x.2.2)]) (fun x L => L = ⟨b16, 0, (x.2.1).map w32, 16⟩ :: G ∧ x.1 ≤ 8 ∧ x.2.1.length = 16 ∧ x.2.2.toNat < 2 ^ 32 ∧ x.2.1.getD (i + 8) 0 = 0 ∧ wsN x.2.1 + 2 ^ (32 * (i + x.1)) * x.2.2.toNat = wsN (l.take i) * wsN m + 2 ^ (32 * i) * ((l.getD i 0).toNat * wsN (m.take x.1))) (fun x => 8 - x.1) (0, ol, 0#64) (.cons rfl (.cons rfl .nil)) zT z_B (⟨rfl, Nat.zero_le _, ho, (by decide : (0#64).toNat < 2 ^ 32), hzz, by simp only; rw [hN, List.take_zero, show wsN [] = 0 from rfl]; simp⟩) ?_)
  clear ho hN hzz
  rintro ⟨k, ol, c⟩ e_ L ⟨rfl, hk, ho, hc, hz, hN⟩
  simp only at hk ho hc hz hN
  refine zs ?_
  refine zc (T1.ltI_split rfl rfl (fun h7 => ?_) (fun h7 => ?_))
  ·
   have hk8 : k < 8 := by omega
   refine zs ?_
   refine T.cond_t rfl (zs ?_)
   refine z0 (V1.indexAddrS ty_148 sz_37 rfl rfl zw zw) ?_
   refine zq (V1.load1 one_37 rfl (show Rd _ _ ⟨bm, om_ + k * 1, none⟩ (w32 (m.getD k 0)) from by rw [Nat.mul_one]; exact hrm _ rfl rfl _ z_D _ _ (w32_get zw))) ?_
   refine z0 (V1.add (c := ((i + k : Nat) : Int)) rfl rfl z_J) ?_
   refine z0 (V1.indexAddrS ty_148 sz_37 rfl rfl zw zw) ?_
   refine z0 (V1.load1 one_37 rfl (show Rd _ _ ⟨b16, 0 + (i + k) * 1, none⟩ (w32 (ol.getD (i + k) 0)) from by rw [Nat.mul_one]; exact Rd.at z_A (w32_get zw))) ?_
   refine zq (V1.convW 64 u64U ty_37 ty_79 rfl) ?_
   refine zq (V1.convW 64 u64U ty_37 ty_79 rfl) ?_
   refine z0 (V1.convW 64 u64U ty_37 ty_79 rfl) ?_
   refine z0 (V1.mulW u64U rfl rfl) ?_
   refine z0 (V1.addW u64U rfl rfl) ?_
   refine z0 (V1.addW u64U rfl rfl) ?_
   refine z0 (V1.assign' (v := w64 (mac64 c (ol.getD (i + k) 0) (l.getD i 0) (m.getD k 0))) rfl) ?_
   refine TL.nil ?_
   refine T.seq (T.live (l := [(1, _), (5, _), (6, _), (7, _), (8, _), (9, _), (17, _), (18, _), (19, _), (24, _), (25, _), (26, _)]) zT (fun e_ => ?_))
   refine zs ?_
   refine zq (V1.add (c := ((i + k : Nat) : Int)) rfl rfl z_J) ?_
   refine z0 (V1.convW (a := (mac64 c (ol.getD (i + k) 0) (l.getD i 0) (m.getD k 0))) 32 u32U ty_79 ty_37 rfl) ?_
   refine z0 (V1.indexAddrS ty_148 sz_37 rfl rfl zw zw) ?_
   refine zc (T1.storeE (o := 0 + (i + k) * 1) (cells := ol.map w32) (cells' := (ol.set (i + k) ((mac64 c (ol.getD (i + k) 0) (l.getD i 0) (m.getD k 0)).setWidth 32)).map w32) rfl rfl sz_37 rfl (by rw [show 0 + (i + k) * 1 - 0 = i + k from by omega, List.map_set]; rfl) z_H (Nat.zero_le _) (by rw [List.length_map]; omega) ?_)
   refine zs ?_
   refine zq (V1.shrW (a := (mac64 c (ol.getD (i + k) 0) (l.getD i 0) (m.getD k 0))) (k := 32) u64U rfl rfl) ?_
   refine zq1 (V1.add rfl rfl (wrap_i64 _ zw zw)) ?_
   exact ⟨(k + 1, ol.set (i + k) ((mac64 c (ol.getD (i + k) 0) (l.getD i 0) (m.getD k 0)).setWidth 32), (mac64 c (ol.getD (i + k) 0) (l.getD i 0) (m.getD k 0)) >>> 32), ⟨b16, 0, (ol.set (i + k) ((mac64 c (ol.getD (i + k) 0) (l.getD i 0) (m.getD k 0)).setWidth 32)).map w32, 16⟩ :: G, _, z_N, (.cons rfl (.cons rfl .nil)), (.cons rfl (.cons rfl (.cons rfl (.cons rfl (.cons rfl (.cons rfl (.cons rfl (.cons rfl (.cons rfl .nil))))))))), z_B, ⟨rfl, by simp only; omega, by simp only; rw [List.length_set]; exact ho, mac64_hi, by simp only; rw [Ed.getD_set_ne (by omega)]; exact hz, times_step ho hm hi8 hk8 hc hN⟩⟩
  ·
   obtain rfl : k = 8 := by omega
   refine zs ?_
   refine T.cond_f rfl (zs ?_)
   refine z0 (V1.lenSl ty_148 rfl) ?_
   refine zq (V1.add (c := ((i + 8 : Nat) : Int)) rfl rfl z_J) ?_
   refine z0 (V1.convW (a := c) 32 u32U ty_79 ty_37 rfl) ?_
   refine z0 (V1.indexAddrS ty_148 sz_37 rfl rfl zw zw) ?_
   refine zc (T1.storeE (o := 0 + (i + 8) * 1) (cells := ol.map w32) (cells' := (ol.set (i + 8) (c.setWidth 32)).map w32) rfl rfl sz_37 rfl (by rw [show 0 + (i + 8) * 1 - 0 = i + 8 from by omega, List.map_set]; rfl) z_H (Nat.zero_le _) (by rw [List.length_map]; omega) ?_)
   refine zs ?_
   refine zq1 (V1.add rfl rfl (wrap_i64 _ zw zw)) ?_
   exact ⟨(i + 1, ol.set (i + 8) (c.setWidth 32)), ⟨b16, 0, (ol.set (i + 8) (c.setWidth 32)).map w32, 16⟩ :: G, _, z_N, (.cons rfl .nil), (.cons rfl (.cons rfl (.cons rfl (.cons rfl .nil)))), z_B, ⟨rfl, by simp only; omega, by simp only; rw [List.length_set]; exact ho, times_row ho hl hm hi8 hc hz hN⟩⟩
 ·
  obtain rfl : i = 8 := by omega
  rw [List.take_of_length_le (show l.length ≤ 8 by omega)] at hN
  refine zs ?_
  refine T.cond_f rfl (zs ?_)
  obtain rfl := wsF_of ho hN
  exact ⟨_, _ :: G, _, .cons (.tmp z_C) .nil, z_B, [_], rfl, RowR.own (List.mem_cons_self ..) (by rw [List.length_map, wsF_len])⟩
set_option exponentiation.threshold 600 in
theorem plus16_any (w0 : World) (Ps : List Blk) {v u : Value} (l m : List (BitVec 32)) (h : RowR w0 Ps 1 v 16 (l.map w32)) (hl : l.length = 16) (h2 : RowR w0 Ps 1 u 8 (m.map w32)) (hm : m.length = 8) : FnG P 87 [v, u] w0 Ps [] (fun v Y => RowR w0 Y 1 v 17 ((wsF 17 (wsN l + wsN m)).map w32)) := by
 obtain ⟨a_, c_, rfl⟩ := h.form
 obtain ⟨a2_, c2_, rfl⟩ := h2.form
 obtain ⟨bm, om_, rfl, hrm⟩ := h2.at ze P
 have hl17 : (l ++ [(0 : BitVec 32)]).length = 17 := by rw [List.length_append, hl]; rfl
 refine FnG.of 46 [.tmp 4] Go.Proofs.Tryz.func87 rfl rfl rfl rfl (fun G hG => ?_)
 refine zs ?_
 refine z0 (V1.lenSl ty_148 rfl) ?_
 refine z0 (V1.add (c := 17) rfl rfl ze) ?_
 refine zc (T1.make1 (0) (17) ty_148 sz_37 by_37 zr_37 rfl rfl rfl ze ze ze (fun b12 => zs ?_))
 refine zc (T1.append ty_148 kd_148 sz_37 by_37 zr_37 rfl ze ze rfl rfl (Sl.mk (b := b12) (xs := []) (len := 0) (cap := 17) (size := 17) rfl ze ze) (h.src _ rfl rfl _ z_D) (one_w32 l) 1000 (by rw [List.length_map, hl]; decide) ze z_E (fun s1 Ls1 hs1 => ?_))
 rw [List.nil_append] at hs1
 refine zs ?_
 refine zc (T1.buildSl1 (os := [.const (.int .u32 0)]) ty_148 sz_37 zr_37 ze rfl (.cons z_C .nil) rfl (ones rfl) (fun b16 => ?_))
 refine zc (T1.append ty_148 kd_148 sz_37 by_37 zr_37 rfl ze ze rfl rfl hs1 (.sl (vs := [w32 0#32]) (RdN.at0 z_A) zr) (by intro u hu; obtain rfl := List.mem_singleton.1 hu; rfl) 1000 (by rw [List.length_map, hl]; decide) ze z_E (fun s2 Ls2 hs2 => ?_))
 replace hs2 : Sl s2 ((l ++ [0]).map w32) 1 Ls2 := by rw [List.map_append]; exact hs2
 obtain ⟨br, off, cap, size, rfl, hcap, hsz, rfl⟩ := hs2.block (by simp)
 have hlen : ((l ++ [0]).map w32).length = 17 := by rw [List.length_map, List.length_append, hl]; rfl
 rw [hlen] at hcap ⊢
 refine z1 ?_
 refine T.seq (T.region (zq (V1.assign' (v := w32 0#32) rfl) ?_))
 refine zq1 (V1.lenSl ty_148 rfl) ?_
 refine T.block (T.loopL (σ := Nat × List (BitVec 32) × BitVec 32) (l0 := [(1, _), (5, _), (19, _)]) (fun x => [(20, .int .i64 (x.1 : Nat)), (6, w32 x.2.2)]) (fun x L => L = ⟨br, off, ((x.2.1) ++ (l ++ [0]).drop (x.1)).map w32, size⟩ :: G ∧ x.1 ≤ 17 ∧ x.2.1.length = x.1 ∧ wsN x.2.1 + 2 ^ (32 * x.1) * x.2.2.toNat = wsN ((l ++ [0]).take x.1) + wsN (m.take x.1)) (fun x => 17 - x.1) (0, [], 0#32) (.cons rfl (.cons rfl .nil)) zT z_B (⟨rfl, Nat.zero_le _, rfl, rfl⟩) ?_)
 rintro ⟨i, a, c⟩ e_ L ⟨rfl, hi, ha, hN⟩
 simp only at hi ha hN
 refine zs ?_
 refine zc (T1.ltI_split rfl rfl (fun h5 => ?_) (fun h5 => ?_))
 ·
  have hi17 : i < 17 := by omega
  refine zs ?_
  refine T.cond_t rfl (T.skip (T.seq (T.block (T.seq (T.region (z1 ?_))))))
  refine T.seq (T.region (z0 (V1.assign' (v := w32 0#32) rfl) ?_))
  refine TL.nil ?_
  refine T.cut (σ := BitVec 32) (l0 := [(1, _), (5, _), (6, _), (7, _), (19, _), (20, _)]) (fun x => [(8, w32 x)]) (fun x L => L = ⟨br, off, ((a) ++ (l ++ [0]).drop (i)).map w32, size⟩ :: G ∧ x = if i < 8 then m.getD i 0 else 0) (.cons z_C (.cons z_C (.cons z_C (.cons z_C (.cons z_C (.cons z_C .nil)))))) ?_ ?_
  ·
   refine zs ?_
   refine z0 (V1.lenSl ty_148 rfl) ?_
   refine zc (T1.ltI_split rfl rfl (fun h8 => ?_) (fun h8 => ?_))
   ·
    have hi8 : i < 8 := by omega
    refine TL.nil ?_
    refine T.cond_t rfl (zs ?_)
    refine z0 (V1.indexAddrS ty_148 sz_37 rfl rfl zw zw) ?_
    refine zq1 (V1.load1 one_37 rfl (show Rd _ _ ⟨bm, om_ + i * 1, none⟩ (w32 (m.getD i 0)) from by rw [Nat.mul_one]; exact hrm _ rfl rfl _ z_D _ _ (w32_get zw))) ?_
    exact ⟨m.getD i 0, _, _, trivial, (.cons rfl .nil), (.cons rfl (.cons rfl (.cons rfl (.cons rfl (.cons rfl (.cons rfl .nil)))))), z_B, ⟨rfl, by rw [if_pos hi8]⟩⟩
   ·
    have hi8 : ¬ i < 8 := by omega
    refine TL.nil ?_
    refine T.cond_f rfl (T.skip ?_)
    exact ⟨0#32, _, _, trivial, (.cons rfl .nil), (.cons rfl (.cons rfl (.cons rfl (.cons rfl (.cons rfl (.cons rfl .nil)))))), z_B, ⟨rfl, by rw [if_neg hi8]; rfl⟩⟩
  ·
   rintro x e_ L ⟨rfl, hx⟩
   have hst := plus_step hl hm ha hi17 hx hN
   have hrd := drop_get ha (show i < (l ++ [0]).length by rw [List.length_append, hl]; exact hi17)
   generalize (l ++ [0]).getD i 0 = q at hst hrd
   refine zs ?_
   refine z0 (V1.indexAddrS ty_148 sz_37 rfl rfl zw zw) ?_
   refine zq (V1.load1 one_37 rfl (show Rd _ _ ⟨br, off + i * 1, none⟩ (w32 q) from by rw [Nat.mul_one]; exact Rd.at z_A hrd)) ?_
   refine zc (T1.call0 has_121 rfl (fun w hs => Add32_any q x c w) (fun v hv => ?_))
   subst hv
   refine zs ?_
   refine z0 (V1.indexAddrS ty_148 sz_37 rfl rfl zw zw) ?_
   refine zc (T1.storeE (o := off + i * 1) (cells := (a ++ (l ++ [0]).drop i).map w32) (cells' := ((a ++ [(sum32 q x c).setWidth 32]) ++ (l ++ [0]).drop (i + 1)).map w32) rfl rfl sz_37 rfl (by rw [show off + i * 1 - off = i from by omega, ← drop_set ha (by rw [List.length_append, hl]; exact hi17), List.map_set]; rfl) z_H (Nat.le_add_right _ _) (by rw [List.length_map, List.length_append, List.length_drop, hl17, ha]; omega) ?_)
   refine z1 ?_
   refine T.live (l := [(1, _), (5, _), (6, _), (19, _), (20, _)]) zT (fun e_ => ?_)
   refine T.region (zq1 (V1.add rfl rfl (wrap_i64 _ zw zw)) ?_)
   exact ⟨(i + 1, a ++ [(sum32 q x c).setWidth 32], ((sum32 q x c) >>> 32).setWidth 32), ⟨br, off, ((a ++ [(sum32 q x c).setWidth 32]) ++ (l ++ [0]).drop (i + 1)).map w32, size⟩ :: G, _, z_N, (.cons rfl (.cons rfl .nil)), (.cons rfl (.cons rfl (.cons rfl .nil))), z_B, ⟨rfl, by simp only; omega, by simp only; rw [List.length_append, ha]; rfl, hst⟩⟩
 ·
  obtain rfl : i = 17 := by omega
  refine zs ?_
  refine T.cond_f rfl (zs ?_)
  obtain rfl := plus_end hl hm ha hN
  rw [List.drop_of_length_le (by rw [List.length_append, hl]; exact Nat.le_refl _), List.append_nil]
  exact ⟨_, _ :: G, _, .cons (.tmp z_C) .nil, z_B, [_], rfl, RowR.own (List.mem_cons_self ..) (by rw [List.length_map, wsF_len])⟩
theorem mod_any (w0 : World) (Ps : List Blk) {v : Value} (n : Nat) (l : List (BitVec 32)) (h : RowR w0 Ps 1 v n (l.map w32)) (hl : l.length = n) (h0 : 0 < n) (hn : n ≤ 100) : FnG P 88 [v] w0 Ps [] (fun v Y => RowR w0 Y 1 v 8 ((wsF 8 (wsN l % Lo)).map w32)) := by
 obtain ⟨a_, c_, rfl⟩ := h.form
 obtain ⟨bl, ol, rfl, hrd⟩ := h.at h0 P
 refine FnG.of 79 [.tmp 2] Go.Proofs.Tryz.func88 rfl rfl rfl rfl (fun G hG => ?_)
 refine T.seq (T.region (z1 ?_))
 refine T.cut (σ := Nat × Nat × Value × List Blk) (l0 := [(0, _)]) (fun x => [(3, .slice (some ⟨x.1, 0, none⟩) 8 8), (4, x.2.2.1), (5, .slice (some ⟨x.2.1, 0, none⟩) 8 8)]) (fun x L => L = ⟨x.1, 0, (List.replicate 8 0).map w32, 8⟩ :: ⟨x.2.1, 0, (List.replicate 8 0).map w32, 8⟩ :: (x.2.2.2 ++ G) ∧ RowR w0 x.2.2.2 1 x.2.2.1 8 ((wsF 8 Lo).map w32)) (.cons z_C .nil) ?_ ?_
 ·
  refine T.drawK (fun L_ => True) mixed trivial ?_
  refine TK.three 0 1 2 z_F rfl rfl rfl rfl rfl rfl (T1.make1 (8) (8) ty_148 sz_37 by_37 zr_37 rfl rfl rfl ze ze ze (fun b11 => ?_)) (T1.callC has_109 rfl rfl (order_any w0) z_D (fun vo Yo hO => ?_)) (T1.make1 (8) (8) ty_148 sz_37 by_37 zr_37 rfl rfl rfl ze ze ze (fun b13 => ?_))
  ·
   refine ⟨trivial, TK.two 1 2 z_F rfl rfl rfl rfl (T1.callC has_109 rfl rfl (order_any w0) z_D (fun vo Yo hO => ?_)) (T1.make1 (8) (8) ty_148 sz_37 by_37 zr_37 rfl rfl rfl ze ze ze (fun b13 => ?_))⟩
   ·
    refine ⟨trivial, zk 3 rfl (fun _ => V1.assign' z_C) ?_⟩
    refine zk 4 rfl (fun _ => V1.assign' z_C) ?_
    refine zo 2 rfl rfl (T1.make1 (8) (8) ty_148 sz_37 by_37 zr_37 rfl rfl rfl ze ze ze (fun b13 => ?_))
    refine ⟨trivial, zk 5 rfl (fun _ => V1.assign' z_C) ?_⟩
    exact TD.done z_F ⟨(b11, b13, vo, Yo), ⟨b11, 0, (List.replicate 8 0).map w32, 8⟩ :: ⟨b13, 0, (List.replicate 8 0).map w32, 8⟩ :: (Yo ++ G), _, trivial, (.cons rfl (.cons rfl (.cons rfl .nil))), (.cons rfl .nil), z_B, ⟨rfl, hO⟩⟩
   ·
    refine ⟨trivial, zo 1 rfl rfl (T1.callC has_109 rfl rfl (order_any w0) z_D (fun vo Yo hO => ?_))⟩
    refine ⟨trivial, zk 3 rfl (fun _ => V1.assign' z_C) ?_⟩
    refine zk 4 rfl (fun _ => V1.assign' z_C) ?_
    refine zk 5 rfl (fun _ => V1.assign' z_C) ?_
    exact TD.done z_F ⟨(b11, b13, vo, Yo), ⟨b11, 0, (List.replicate 8 0).map w32, 8⟩ :: ⟨b13, 0, (List.replicate 8 0).map w32, 8⟩ :: (Yo ++ G), _, trivial, (.cons rfl (.cons rfl (.cons rfl .nil))), (.cons rfl .nil), z_B, ⟨rfl, hO⟩⟩
  ·
   refine ⟨trivial, TK.two 0 2 z_F rfl rfl rfl rfl (T1.make1 (8) (8) ty_148 sz_37 by_37 zr_37 rfl rfl rfl ze ze ze (fun b11 => ?_)) (T1.make1 (8) (8) ty_148 sz_37 by_37 zr_37 rfl rfl rfl ze ze ze (fun b13 => ?_))⟩
   ·
    refine ⟨trivial, zk 3 rfl (fun _ => V1.assign' z_C) ?_⟩
    refine zk 4 rfl (fun _ => V1.assign' z_C) ?_
    refine zo 2 rfl rfl (T1.make1 (8) (8) ty_148 sz_37 by_37 zr_37 rfl rfl rfl ze ze ze (fun b13 => ?_))
    refine ⟨trivial, zk 5 rfl (fun _ => V1.assign' z_C) ?_⟩
    exact TD.done z_F ⟨(b11, b13, vo, Yo), ⟨b11, 0, (List.replicate 8 0).map w32, 8⟩ :: ⟨b13, 0, (List.replicate 8 0).map w32, 8⟩ :: (Yo ++ G), _, trivial, (.cons rfl (.cons rfl (.cons rfl .nil))), (.cons rfl .nil), z_B, ⟨rfl, hO⟩⟩
   ·
    refine ⟨trivial, zo 0 rfl rfl (T1.make1 (8) (8) ty_148 sz_37 by_37 zr_37 rfl rfl rfl ze ze ze (fun b11 => ?_))⟩
    refine ⟨trivial, zk 3 rfl (fun _ => V1.assign' z_C) ?_⟩
    refine zk 4 rfl (fun _ => V1.assign' z_C) ?_
    refine zk 5 rfl (fun _ => V1.assign' z_C) ?_
    exact TD.done z_F ⟨(b11, b13, vo, Yo), ⟨b11, 0, (List.replicate 8 0).map w32, 8⟩ :: ⟨b13, 0, (List.replicate 8 0).map w32, 8⟩ :: (Yo ++ G), _, trivial, (.cons rfl (.cons rfl (.cons rfl .nil))), (.cons rfl .nil), z_B, ⟨rfl, hO⟩⟩
  ·
   refine ⟨trivial, TK.two 0 1 z_F rfl rfl rfl rfl (T1.make1 (8) (8) ty_148 sz_37 by_37 zr_37 rfl rfl rfl ze ze ze (fun b11 => ?_)) (T1.callC has_109 rfl rfl (order_any w0) z_D (fun vo Yo hO => ?_))⟩
   ·
    refine ⟨trivial, zo 1 rfl rfl (T1.callC has_109 rfl rfl (order_any w0) z_D (fun vo Yo hO => ?_))⟩
    refine ⟨trivial, zk 3 rfl (fun _ => V1.assign' z_C) ?_⟩
    refine zk 4 rfl (fun _ => V1.assign' z_C) ?_
    refine zk 5 rfl (fun _ => V1.assign' z_C) ?_
    exact TD.done z_F ⟨(b11, b13, vo, Yo), ⟨b11, 0, (List.replicate 8 0).map w32, 8⟩ :: ⟨b13, 0, (List.replicate 8 0).map w32, 8⟩ :: (Yo ++ G), _, trivial, (.cons rfl (.cons rfl (.cons rfl .nil))), (.cons rfl .nil), z_B, ⟨rfl, hO⟩⟩
   ·
    refine ⟨trivial, zo 0 rfl rfl (T1.make1 (8) (8) ty_148 sz_37 by_37 zr_37 rfl rfl rfl ze ze ze (fun b11 => ?_))⟩
    refine ⟨trivial, zk 3 rfl (fun _ => V1.assign' z_C) ?_⟩
    refine zk 4 rfl (fun _ => V1.assign' z_C) ?_
    refine zk 5 rfl (fun _ => V1.assign' z_C) ?_
    exact TD.done z_F ⟨(b11, b13, vo, Yo), ⟨b11, 0, (List.replicate 8 0).map w32, 8⟩ :: ⟨b13, 0, (List.replicate 8 0).map w32, 8⟩ :: (Yo ++ G), _, trivial, (.cons rfl (.cons rfl (.cons rfl .nil))), (.cons rfl .nil), z_B, ⟨rfl, hO⟩⟩
 ·
  rintro ⟨br, bn, vo, Yo⟩ e_ L ⟨rfl, hO⟩
  simp only at hO
  dsimp only
  obtain ⟨ao, co, rfl⟩ := hO.form
  obtain ⟨bo, oo, rfl, hro⟩ := hO.at ze P
  refine zs ?_
  refine z0 (V1.lenSl ty_148 rfl) ?_
  refine z0 (V1.mul (c := ((32 * n : Nat) : Int)) rfl rfl z_J) ?_
  refine zq1 (V1.sub (c := ((32 * n : Nat) : Int) - 1) rfl rfl (wrap_i64 _ zw zw)) ?_
  refine T.block (T.loopL (σ := Nat × Nat × Nat × List (BitVec 32) × List (BitVec 32)) (l0 := [(0, _), (4, _)]) (fun x => [(6, .int .i64 ((x.1 : Nat) - 1 : Int)), (3, .slice (some ⟨x.2.1, 0, none⟩) 8 8), (5, .slice (some ⟨x.2.2.1, 0, none⟩) 8 8)]) (fun x L => L = ⟨x.2.1, 0, (x.2.2.2.1).map w32, 8⟩ :: ⟨x.2.2.1, 0, (x.2.2.2.2).map w32, 8⟩ :: (Yo ++ G) ∧ x.1 ≤ 32 * n ∧ x.2.2.2.1.length = 8 ∧ x.2.2.2.2.length = 8 ∧ wsN x.2.2.2.1 = wsN l / 2 ^ x.1 % Lo) (fun x => x.1) (32 * n, br, bn, List.replicate 8 0, List.replicate 8 0) (.cons rfl (.cons rfl (.cons rfl .nil))) zT z_B (⟨rfl, Nat.le_refl _, rfl, rfl, by simp only; rw [wsN_zero, div_all hl]⟩) ?_)
  skip
  rintro ⟨r, br, bn, rl, nl⟩ e_ L ⟨rfl, hr6, hrl, hnl, hr⟩
  simp only at hr6 hrl hnl hr
  dsimp only
  refine zs ?_
  refine zc (T1.geI_split rfl rfl (fun h3 => ?_) (fun h3 => ?_))
  ·
   try simp only at h3
   obtain ⟨i, rfl⟩ : ∃ i, r = i + 1 := ⟨r - 1, by omega⟩
   obtain ⟨b, hb⟩ : ∃ b, b = wsN l / 2 ^ i % 2 := ⟨_, rfl⟩
   have hb1 : b ≤ 1 := by have := Nat.mod_lt (wsN l / 2 ^ i) (show 2 > 0 by decide); omega
   have hbt : (((l.getD (i / 32) 0) >>> (i % 32)) &&& 1#32).toNat = b := by rw [BitVec.toNat_and, hb, ← ws_bit (by omega)]; exact Nat.and_one_is_mod _
   refine TL.nil ?_
   refine T.cond_t rfl (zs ?_)
   refine z0 (V1.quo (c := ((i / 32 : Nat) : Int)) rfl rfl ze (by rw [(show (((i + 1 : Nat) : Int) - 1) = (i : Int) from by omega), show ((i : Int).tdiv 32) = ((i / 32 : Nat) : Int) from (Int.ofNat_tdiv i 32).symm]; exact wrap_i64 _ zw zw)) ?_
   refine z0 (V1.indexAddrS ty_148 sz_37 rfl rfl zw zw) ?_
   refine zq (V1.load1 one_37 rfl (show Rd _ _ ⟨bl, ol + (i / 32) * 1, none⟩ (w32 (l.getD (i / 32) 0)) from by rw [Nat.mul_one]; exact hrd _ rfl rfl _ z_D _ _ (w32_get zw))) ?_
   refine z0 (V1.rem (c := ((i % 32 : Nat) : Int)) rfl rfl ze (by rw [(show (((i + 1 : Nat) : Int) - 1) = (i : Int) from by omega), show ((i : Int).tmod 32) = ((i % 32 : Nat) : Int) from (Int.ofNat_tmod i 32).symm])) ?_
   refine z0 (V1.shrW (a := l.getD (i / 32) 0) (k := i % 32) u32U rfl rfl) ?_
   refine zq (V1.andW (a := (l.getD (i / 32) 0) >>> (i % 32)) (b := 1#32) u32U rfl rfl) ?_
   refine zq1 (V1.lenSl ty_148 rfl) ?_
   refine T.block (T.loopL (σ := Nat × List (BitVec 32) × BitVec 32) (l0 := [(0, _), (3, _), (4, _), (5, _), (6, _), (32, _)]) (fun x => [(33, .int .i64 (x.1 : Nat)), (7, w32 x.2.2)]) (fun x L => L = ⟨br, 0, (x.2.1 ++ rl.drop x.1).map w32, 8⟩ :: ⟨bn, 0, (nl).map w32, 8⟩ :: (Yo ++ G) ∧ x.1 ≤ 8 ∧ x.2.1.length = x.1 ∧ x.2.2.toNat ≤ 1 ∧ wsN x.2.1 + 2 ^ (32 * x.1) * x.2.2.toNat = 2 * wsN (rl.take x.1) + b) (fun x => 8 - x.1) (0, [], ((l.getD (i / 32) 0) >>> (i % 32)) &&& 1#32) (.cons rfl (.cons rfl .nil)) zT z_B (⟨rfl, Nat.zero_le _, rfl, by simp only; rw [hbt]; exact hb1, by simp only; rw [hbt, List.take_zero, show wsN [] = 0 from rfl]; simp⟩) ?_)
   rintro ⟨k, a, c⟩ e_ L ⟨rfl, hk, ha, hc, hN⟩
   simp only at hk ha hc hN
   dsimp only
   refine zs ?_
   refine zc (T1.ltI_split rfl rfl (fun h7 => ?_) (fun h7 => ?_))
   ·
    have hk8 : k < 8 := by omega
    refine zs ?_
    refine T.cond_t rfl (T.skip (T.seq (T.block (T.seq (T.region (z1 ?_))))))
    refine T.drawZ (fun L_ => Find L_ (⟨br, 0, (a ++ rl.drop k).map w32, 8⟩ : Blk)) 15 mixed z_A ?_
    refine TZ.pure 0 rfl z_F z_F z_F z_F rfl (fun _ _ _ h => h) (fun _ => V1.move' z_C) ?_
    refine TZ.pure 1 rfl z_F z_F z_F z_F rfl (fun _ _ _ h => h) (fun _ => V1.move' z_C) ?_
    refine TZ.pure 2 rfl z_F z_F z_F z_F rfl (fun _ _ _ h => h) (fun _ => V1.move' z_C) ?_
    refine TZ.pure 3 rfl z_F z_F z_F z_F rfl (fun _ _ _ h => h) (fun _ => V1.move' z_C) ?_
    refine TZ.pure 4 rfl z_F z_F z_F z_F rfl (fun _ _ _ h => h) (fun _ => V1.indexAddrS ty_148 sz_37 rfl rfl zw zw) ?_
    refine TZ.pure 7 rfl z_F z_F z_F z_F rfl (fun _ _ _ h => h) (fun _ => V1.move' z_C) ?_
    refine TZ.pure 9 rfl z_F z_F z_F z_F rfl (fun _ _ _ h => h) (fun _ => V1.move' z_C) ?_
    refine TZ.pure 10 rfl z_F z_F z_F z_F rfl (fun _ _ _ h => h) (fun _ => V1.move' z_C) ?_
    refine TZ.pure 11 rfl z_F z_F z_F z_F rfl (fun _ _ _ h => h) (fun _ => V1.indexAddrS ty_148 sz_37 rfl rfl zw zw) ?_
    refine TZ.read 5 rfl z_F z_F z_F z_F rfl (fun _ _ _ h => h) (fun L_ k1_ => V1.load1 one_37 rfl (show Rd _ _ ⟨br, 0 + k * 1, none⟩ (w32 (rl.getD k 0)) from by rw [Nat.mul_one]; exact Rd.at z_A (drop_get ha zw))) ?_
    refine TZ.pure 6 rfl z_F z_F z_F z_F rfl (fun _ _ _ h => h) (fun _ => V1.shlW (a := rl.getD k 0) (k := 1) u32U rfl rfl) ?_
    refine TZ.pure 8 rfl z_F z_F z_F z_F rfl (fun _ _ _ h => h) (fun _ => V1.orW (a := (rl.getD k 0) <<< 1) (b := c) u32U rfl rfl) ?_
    refine TZ.read 12 rfl z_F z_F z_F z_F rfl (fun _ _ _ h => h) (fun L_ k1_ => V1.load1 one_37 rfl (show Rd _ _ ⟨br, 0 + k * 1, none⟩ (w32 (rl.getD k 0)) from by rw [Nat.mul_one]; exact Rd.at z_A (drop_get ha zw))) ?_
    refine TZ.pure 13 rfl z_F z_F z_F z_F rfl (fun _ _ _ h => h) (fun _ => V1.shrW (a := rl.getD k 0) (k := 31) u32U rfl rfl) ?_
    refine TZ.pure 14 rfl z_F z_F z_F z_F rfl (fun _ _ _ h => h) (fun _ => V1.indexAddrS ty_148 sz_37 rfl rfl zw zw) ?_
    refine TZ.one 15 z_F rfl z_F rfl (T1.storeE (o := 0 + k * 1) (cells := (a ++ rl.drop k).map w32) (cells' := ((a ++ [((rl.getD k 0) <<< 1 ||| c)]) ++ rl.drop (k + 1)).map w32) rfl rfl sz_37 rfl (by rw [show 0 + k * 1 - 0 = k from by omega, ← drop_set ha zw, List.map_set]; rfl) z_H (Nat.zero_le _) (by rw [List.length_map, List.length_append, List.length_drop, ha, hrl]; omega) ?_)
    refine TZ.pure 16 rfl z_F z_F z_F z_F rfl (fun _ _ _ h => h) (fun _ => V1.assign' z_C) ?_
    refine TZ.done z_F ?_
    refine T.live (l := [(0, _), (3, _), (4, _), (5, _), (6, _), (7, _), (32, _), (33, _)]) zT (fun e_ => ?_)
    refine T.region (zq1 (V1.add rfl rfl (wrap_i64 _ zw zw)) ?_)
    exact ⟨(k + 1, a ++ [((rl.getD k 0) <<< 1 ||| c)], (rl.getD k 0) >>> 31), ⟨br, 0, ((a ++ [((rl.getD k 0) <<< 1 ||| c)]) ++ rl.drop (k + 1)).map w32, 8⟩ :: ⟨bn, 0, (nl).map w32, 8⟩ :: (Yo ++ G), _, z_N, (.cons rfl (.cons rfl .nil)), (.cons rfl (.cons rfl (.cons rfl (.cons rfl (.cons rfl (.cons rfl .nil)))))), z_B, ⟨rfl, by simp only; omega, by simp only; rw [List.length_append, ha]; rfl, (dbl_step ha zw hc hN).2, (dbl_step ha zw hc hN).1⟩⟩
   ·
    obtain rfl : k = 8 := by omega
    have hda := mod_dbl hb hrl hr hN
    rw [List.drop_of_length_le zw, List.append_nil]
    clear hN
    refine zs ?_
    refine T.cond_f rfl (T.exit (T.seq (T.region ?_)))
    refine zq (V1.assign' (v := w32 0#32) rfl) ?_
    refine zq1 (V1.lenSl ty_148 rfl) ?_
    refine T.block (T.loopL (σ := Nat × List (BitVec 32) × BitVec 32) (l0 := [(0, _), (3, _), (4, _), (5, _), (6, _), (53, _)]) (fun x => [(54, .int .i64 (x.1 : Nat)), (9, w32 x.2.2)]) (fun x L => L = ⟨br, 0, (a).map w32, 8⟩ :: ⟨bn, 0, (x.2.1 ++ nl.drop x.1).map w32, 8⟩ :: (Yo ++ G) ∧ x.1 ≤ 8 ∧ x.2.1.length = x.1 ∧ x.2.2.toNat ≤ 1 ∧ wsN x.2.1 + wsN ((wsF 8 Lo).take x.1) = wsN (a.take x.1) + 2 ^ (32 * x.1) * x.2.2.toNat) (fun x => 8 - x.1) (0, [], 0#32) (.cons rfl (.cons rfl .nil)) zT z_B (⟨rfl, Nat.zero_le _, rfl, by decide, rfl⟩) ?_)
    clear hc
    have hla := ha
    rintro ⟨k, d, c⟩ e_ L ⟨rfl, hk, hd, hc, hN⟩
    simp only at hk hd hc hN
    dsimp only
    refine zs ?_
    refine zc (T1.ltI_split rfl rfl (fun h13 => ?_) (fun h13 => ?_))
    ·
     have hk8 : k < 8 := by omega
     refine zs ?_
     refine T.cond_t rfl (T.skip (T.seq (T.block (T.seq (T.region (z1 ?_))))))
     refine T.drawZ (fun L_ => Find L_ (⟨br, 0, (a).map w32, 8⟩ : Blk) ∧ Inc Yo L_) 16 mixed ⟨z_A, z_D⟩ ?_
     refine TZ.pure 0 rfl z_F z_F z_F z_F rfl (fun _ _ _ h => h) (fun _ => V1.move' z_C) ?_
     refine TZ.pure 1 rfl z_F z_F z_F z_F rfl (fun _ _ _ h => h) (fun _ => V1.move' z_C) ?_
     refine TZ.pure 2 rfl z_F z_F z_F z_F rfl (fun _ _ _ h => h) (fun _ => V1.move' z_C) ?_
     refine TZ.pure 3 rfl z_F z_F z_F z_F rfl (fun _ _ _ h => h) (fun _ => V1.move' z_C) ?_
     refine TZ.pure 4 rfl z_F z_F z_F z_F rfl (fun _ _ _ h => h) (fun _ => V1.indexAddrS ty_148 sz_37 rfl rfl zw zw) ?_
     refine TZ.pure 6 rfl z_F z_F z_F z_F rfl (fun _ _ _ h => h) (fun _ => V1.move' z_C) ?_
     refine TZ.pure 7 rfl z_F z_F z_F z_F rfl (fun _ _ _ h => h) (fun _ => V1.move' z_C) ?_
     refine TZ.pure 8 rfl z_F z_F z_F z_F rfl (fun _ _ _ h => h) (fun _ => V1.indexAddrS ty_148 sz_37 rfl rfl zw zw) ?_
     refine TZ.pure 10 rfl z_F z_F z_F z_F rfl (fun _ _ _ h => h) (fun _ => V1.move' z_C) ?_
     refine TZ.read 5 rfl z_F z_F z_F z_F rfl (fun _ _ _ h => h) (fun L_ ⟨k1_, k2_⟩ => V1.load1 one_37 rfl (show Rd _ _ ⟨br, 0 + k * 1, none⟩ (w32 (a.getD k 0)) from by rw [Nat.mul_one]; exact Rd.at z_A (w32_get zw))) ?_
     refine TZ.read 9 rfl z_F z_F z_F z_F rfl (fun _ _ _ h => h) (fun L_ ⟨k1_, k2_⟩ => V1.load1 one_37 rfl (show Rd _ _ ⟨bo, oo + k * 1, none⟩ (w32 ((wsF 8 Lo).getD k 0)) from by rw [Nat.mul_one]; exact hro _ rfl rfl _ z_D _ _ (w32_get (by rw [wsF_len]; exact hk8)))) ?_
     refine TZ.oneS 11 z_F rfl rfl (T1.call0 has_122 rfl (fun w hs => Sub32_any (a.getD k 0) ((wsF 8 Lo).getD k 0) c w) (fun v hv => ?_))
     subst hv
     refine ⟨⟨z_A, z_D⟩, ?_⟩
     refine TZ.pure 12 rfl z_F z_F z_F z_F rfl (fun _ _ _ h => h) (fun _ => V1.move' z_C) ?_
     refine TZ.pure 13 rfl z_F z_F z_F z_F rfl (fun _ _ _ h => h) (fun _ => V1.extract rfl zr) ?_
     refine TZ.pure 14 rfl z_F z_F z_F z_F rfl (fun _ _ _ h => h) (fun _ => V1.extract rfl zr) ?_
     refine TZ.pure 15 rfl z_F z_F z_F z_F rfl (fun _ _ _ h => h) (fun _ => V1.indexAddrS ty_148 sz_37 rfl rfl zw zw) ?_
     refine TZ.one 16 z_F rfl z_F rfl (T1.storeE (o := 0 + k * 1) (cells := (d ++ nl.drop k).map w32) (cells' := ((d ++ [(a.getD k 0 - (wsF 8 Lo).getD k 0 - c)]) ++ nl.drop (k + 1)).map w32) rfl rfl sz_37 rfl (by rw [show 0 + k * 1 - 0 = k from by omega, ← drop_set hd zw, List.map_set]; rfl) z_H (Nat.zero_le _) (by rw [List.length_map, List.length_append, List.length_drop, hd, hnl]; omega) ?_)
     refine TZ.pure 17 rfl z_F z_F z_F z_F rfl (fun _ _ _ h => h) (fun _ => V1.assign' z_C) ?_
     refine TZ.done z_F ?_
     refine T.live (l := [(0, _), (3, _), (4, _), (5, _), (6, _), (9, _), (53, _), (54, _)]) zT (fun e_ => ?_)
     refine T.region (zq1 (V1.add rfl rfl (wrap_i64 _ zw zw)) ?_)
     exact ⟨(k + 1, d ++ [(a.getD k 0 - (wsF 8 Lo).getD k 0 - c)], (brw (a.getD k 0) ((wsF 8 Lo).getD k 0) c)), ⟨br, 0, (a).map w32, 8⟩ :: ⟨bn, 0, ((d ++ [(a.getD k 0 - (wsF 8 Lo).getD k 0 - c)]) ++ nl.drop (k + 1)).map w32, 8⟩ :: (Yo ++ G), _, z_N, (.cons rfl (.cons rfl .nil)), (.cons rfl (.cons rfl (.cons rfl (.cons rfl (.cons rfl (.cons rfl .nil)))))), z_B, ⟨rfl, by simp only; omega, by simp only; rw [List.length_append, hd]; rfl, brw_le hc, sub_step hd zw (by rw [wsF_len]; exact hk8) (by rw [brw_spec hc]; exact sub_word hc) hN⟩⟩
    ·
     obtain rfl : k = 8 := by omega
     have hme := mod_end hb hda hla hd hc hN
     rw [List.drop_of_length_le zw, List.append_nil]
     clear hN
     refine zs ?_
     refine T.cond_f rfl (zs ?_)
     refine zc (T1.eqI_split rfl rfl (fun h17 => ?_) (fun h17 => ?_))
     ·
      have hc0 : c.toNat = 0 := by have : ((0#32).toNat : Int) = 0 := rfl; omega
      refine TL.nil ?_
      refine T.cond_t rfl (zs ?_)
      refine zq1 (V1.sub (c := (i : Int) - 1) rfl rfl z_J) ?_
      exact ⟨(i, bn, br, d, a), ⟨bn, 0, (d).map w32, 8⟩ :: ⟨br, 0, (a).map w32, 8⟩ :: (Yo ++ G), _, z_N, (.cons (congrArg (Value.int .i64) (by first | rfl | omega)) (.cons rfl (.cons rfl .nil))), (.cons rfl (.cons rfl .nil)), z_B, ⟨rfl, by simp only; omega, hd, hla, hme.1 hc0⟩⟩
     ·
      have hc0 : c.toNat ≠ 0 := by have : ((0#32).toNat : Int) = 0 := rfl; omega
      refine TL.nil ?_
      refine T.cond_f rfl (zs ?_)
      refine zq1 (V1.sub (c := (i : Int) - 1) rfl rfl z_J) ?_
      exact ⟨(i, br, bn, a, d), ⟨br, 0, (a).map w32, 8⟩ :: ⟨bn, 0, (d).map w32, 8⟩ :: (Yo ++ G), _, z_N, (.cons (congrArg (Value.int .i64) (by first | rfl | omega)) (.cons rfl (.cons rfl .nil))), (.cons rfl (.cons rfl .nil)), z_B, ⟨rfl, by simp only; omega, hla, hd, hme.2 hc0⟩⟩
  ·
   try simp only at h3
   obtain rfl : r = 0 := by omega
   rw [low_all] at hr
   refine TL.nil ?_
   refine T.cond_f rfl (zs ?_)
   obtain rfl := wsF_of hrl hr
   exact ⟨_, _ :: G, _, .cons (.tmp z_C) .nil, z_B, [_], rfl, RowR.own (List.mem_cons_self ..) (by rw [List.length_map, wsF_len])⟩
end Go.Proofs.YtfjedhmffccgnaaGreatDoor.S
