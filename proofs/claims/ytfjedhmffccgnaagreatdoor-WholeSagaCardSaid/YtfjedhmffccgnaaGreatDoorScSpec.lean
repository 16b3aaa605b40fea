/- Numbers as words of 32 bits; points as 32 bytes. Plain Lean: no walk in this text. -/
import Derived.Test.YtfjedhmffccgnaaGreatDoorFeSpec
open Lean.Grind
namespace Go.Proofs.YtfjedhmffccgnaaGreatDoor.Ed
def wsN : List (BitVec 32) → Nat
  | [] => 0
  | x :: l => x.toNat + 4294967296 * wsN l
def ws (k n : Nat) : List (BitVec 32) := (List.range k).map fun j => BitVec.ofNat 32 (n / 2 ^ (32 * j))
theorem ws_len (k n : Nat) : (ws k n).length = k := by simp [ws]
theorem ws_succ (k n : Nat) : ws (k + 1) n = BitVec.ofNat 32 n :: ws k (n / 4294967296) := by
 unfold ws
 rw [List.range_succ_eq_map, List.map_cons, List.map_map]
 congr 1
 · rw [Nat.mul_zero, Nat.pow_zero, Nat.div_one]
 ·
  refine List.map_congr_left fun j _ => ?_
  show BitVec.ofNat 32 (n / 2 ^ (32 * (j + 1))) = _
  rw [Nat.mul_add, Nat.add_comm (32 * j), Nat.pow_add, ← Nat.div_div_eq_div_mul]
theorem ws_get {k n j : Nat} (h : j < k) : (ws k n)[j]? = some (BitVec.ofNat 32 (n / 2 ^ (32 * j))) := by
 unfold ws; rw [List.getElem?_map, List.getElem?_range h]; rfl
theorem ws_getD {k n j : Nat} (h : j < k) : (ws k n).getD j 0 = BitVec.ofNat 32 (n / 2 ^ (32 * j)) := by
 rw [List.getD_eq_getElem?_getD, ws_get h]; rfl
theorem p32s (k : Nat) : 2 ^ (32 * (k + 1)) = 2 ^ (32 * k) * 4294967296 := by rw [Nat.mul_add, Nat.pow_add]
theorem wsN_ws : ∀ k n, wsN (ws k n) = n % 2 ^ (32 * k)
 | 0, n => by rw [Nat.mul_zero, Nat.pow_zero, Nat.mod_one]; rfl
 | k + 1, n => by
  rw [ws_succ]; show (BitVec.ofNat 32 n).toNat + 4294967296 * wsN (ws k (n / 4294967296)) = _
  rw [wsN_ws k, BitVec.toNat_ofNat, p32s, Nat.mul_comm (2 ^ (32 * k)), Nat.mod_mul]
theorem wsN_lt : ∀ l : List (BitVec 32), wsN l < 2 ^ (32 * l.length)
 | [] => Nat.one_pos
 | b :: l => by
  have := wsN_lt l; have := b.isLt
  show b.toNat + 4294967296 * wsN l < 2 ^ (32 * (l.length + 1))
  rw [p32s]; omega
theorem ws_wsN : ∀ l : List (BitVec 32), ws l.length (wsN l) = l
 | [] => rfl
 | b :: l => by
  have hb := b.isLt
  show ws (l.length + 1) (b.toNat + 4294967296 * wsN l) = _
  rw [ws_succ, show (b.toNat + 4294967296 * wsN l) / 4294967296 = wsN l from by omega, ws_wsN l]
  congr 1
  apply BitVec.eq_of_toNat_eq
  rw [BitVec.toNat_ofNat]; omega
theorem wsN_app : ∀ a b : List (BitVec 32), wsN (a ++ b) = wsN a + 2 ^ (32 * a.length) * wsN b
 | [], b => by show wsN b = 0 + 2 ^ (32 * 0) * wsN b; omega
 | x :: a, b => by
  show x.toNat + 4294967296 * wsN (a ++ b) = x.toNat + 4294967296 * wsN a + 2 ^ (32 * (a.length + 1)) * wsN b
  rw [wsN_app a b, p32s, Nat.mul_add, Nat.mul_comm (2 ^ (32 * a.length)) 4294967296, Nat.mul_assoc]; omega
theorem wsN_snoc (a : List (BitVec 32)) (x : BitVec 32) : wsN (a ++ [x]) = wsN a + 2 ^ (32 * a.length) * x.toNat := by
 rw [wsN_app]; show _ + _ * (x.toNat + 4294967296 * 0) = _; rw [Nat.mul_zero, Nat.add_zero]
theorem wsN_take {l : List (BitVec 32)} {k : Nat} (h : k < l.length) : wsN (l.take (k + 1)) = wsN (l.take k) + 2 ^ (32 * k) * (l.getD k 0).toNat := by
 rw [List.take_add_one, List.getElem?_eq_getElem h, List.getD_eq_getElem?_getD, List.getElem?_eq_getElem h]
 show wsN (l.take k ++ [l[k]]) = _
 rw [wsN_snoc, List.length_take, Nat.min_eq_left (by omega)]; rfl
theorem wsN_set {l : List (BitVec 32)} {j : Nat} {v : BitVec 32} (h : j < l.length) : wsN (l.set j v) + 2 ^ (32 * j) * (l.getD j 0).toNat = wsN l + 2 ^ (32 * j) * v.toNat := by
 have e : l = l.take j ++ l[j] :: l.drop (j + 1) := by rw [← List.drop_eq_getElem_cons h, List.take_append_drop]
 have g : l.getD j 0 = l[j] := by rw [List.getD_eq_getElem?_getD, List.getElem?_eq_getElem h]; rfl
 have ln : (l.take j).length = j := by rw [List.length_take]; omega
 have s : l.set j v = l.take j ++ v :: l.drop (j + 1) := List.set_eq_take_append_cons_drop .. |>.trans (if_pos h)
 have n1 : wsN l = wsN (l.take j) + 2 ^ (32 * j) * (l[j].toNat + 4294967296 * wsN (l.drop (j + 1))) := by
  conv => lhs; rw [e]
  rw [wsN_app, ln]; rfl
 have n2 : wsN (l.set j v) = wsN (l.take j) + 2 ^ (32 * j) * (v.toNat + 4294967296 * wsN (l.drop (j + 1))) := by
  rw [s, wsN_app, ln]; rfl
 rw [n1, n2, g, Nat.mul_add, Nat.mul_add]; omega
theorem wsN_zero : ∀ k, wsN (List.replicate k 0) = 0
 | 0 => rfl
 | k + 1 => by rw [List.replicate_succ]; show (0 : BitVec 32).toNat + 4294967296 * wsN (List.replicate k 0) = 0; rw [wsN_zero k]; rfl
theorem part_byte {n i j : Nat} :
 n % 2 ^ (8 * (i + 1)) / 2 ^ (32 * j) % 2 ^ 32 = if j = i / 4 then (n % 2 ^ (8 * i) / 2 ^ (32 * j) % 2 ^ 32) ||| (n / 2 ^ (8 * i) % 2 ^ 8) <<< (8 * (i % 4)) else n % 2 ^ (8 * i) / 2 ^ (32 * j) % 2 ^ 32 := by
 have dm := Nat.div_add_mod i 4
 have ml := Nat.mod_lt i (show 4 > 0 by omega)
 apply Nat.eq_of_testBit_eq
 intro t
 have ea : ∀ m, (m / 2 ^ (32 * j) % 2 ^ 32).testBit t = (decide (t < 32) && m.testBit (t + 32 * j)) := fun m => by
  rw [Nat.testBit_mod_two_pow, Nat.testBit_div_two_pow]
 split
 ·
  rename_i h; subst h
  rw [Nat.testBit_or, ea, ea, Nat.testBit_mod_two_pow, Nat.testBit_mod_two_pow, Nat.testBit_shiftLeft, Nat.testBit_mod_two_pow, Nat.testBit_div_two_pow]
  by_cases g : t ≥ 8 * (i % 4)
  ·
   rw [show t - 8 * (i % 4) + 8 * i = t + 32 * (i / 4) from by omega]
   have e1 : decide (t + 32 * (i / 4) < 8 * (i + 1)) = decide (t - 8 * (i % 4) < 8) := by rw [decide_eq_decide]; omega
   have e2 : decide (t + 32 * (i / 4) < 8 * i) = false := by rw [decide_eq_false_iff_not]; omega
   rw [e1, e2]
   by_cases c : t - 8 * (i % 4) < 8
   ·
    have : t < 32 := by omega
    simp [c, g, this]
   · simp [c]
  ·
   have e1 : decide (t + 32 * (i / 4) < 8 * (i + 1)) = true := by rw [decide_eq_true_iff]; omega
   have e2 : decide (t + 32 * (i / 4) < 8 * i) = true := by rw [decide_eq_true_iff]; omega
   rw [e1, e2]; simp [g]
 ·
  rename_i h
  rw [ea, ea, Nat.testBit_mod_two_pow, Nat.testBit_mod_two_pow]
  by_cases c : t < 32
  ·
   have e1 : decide (t + 32 * j < 8 * (i + 1)) = decide (t + 32 * j < 8 * i) := by rw [decide_eq_decide]; omega
   rw [e1]
  · simp [c]
theorem ws_byte {n m i : Nat} (hi : i / 4 < m) :
 (ws m (n % 2 ^ (8 * i))).set (i / 4) ((ws m (n % 2 ^ (8 * i))).getD (i / 4) 0 ||| (BitVec.ofNat 32 (n / 2 ^ (8 * i) % 2 ^ 8)) <<< (8 * (i % 4))) = ws m (n % 2 ^ (8 * (i + 1))) := by
 apply List.ext_getElem?
 intro j
 rw [List.getElem?_set]
 by_cases hj : j < m
 ·
  rw [ws_get hj, ws_get hj, ws_len, ws_getD hi]
  have pb := part_byte (n := n) (i := i) (j := j)
  by_cases c : i / 4 = j
  ·
   subst c
   rw [if_pos rfl, if_pos (by omega)]
   congr 1
   apply BitVec.eq_of_toNat_eq
   rw [if_pos rfl] at pb
   rw [BitVec.toNat_ofNat, pb, BitVec.toNat_or, BitVec.toNat_ofNat, BitVec.toNat_shiftLeft, BitVec.toNat_ofNat]
   have l2 : n / 2 ^ (8 * i) % 2 ^ 8 < 2 ^ 8 := Nat.mod_lt _ (by decide)
   rw [Nat.mod_eq_of_lt (a := n / 2 ^ (8 * i) % 2 ^ 8) (b := 2 ^ 32) (by omega), Nat.shiftLeft_eq, Nat.mod_eq_of_lt (a := n / 2 ^ (8 * i) % 2 ^ 8 * 2 ^ (8 * (i % 4))) (b := 2 ^ 32)]
   have : 2 ^ (8 * (i % 4)) ≤ 2 ^ 24 := Nat.pow_le_pow_right (by omega) (by omega)
   have : n / 2 ^ (8 * i) % 2 ^ 8 * 2 ^ (8 * (i % 4)) ≤ (2 ^ 8 - 1) * 2 ^ 24 := Nat.mul_le_mul (by omega) this
   omega
  ·
   rw [if_neg c]
   congr 1
   apply BitVec.eq_of_toNat_eq
   rw [if_neg (fun e => c e.symm)] at pb
   rw [BitVec.toNat_ofNat, BitVec.toNat_ofNat]
   exact pb.symm
 · rw [List.getElem?_eq_none (by rw [ws_len]; omega), if_neg (by omega), List.getElem?_eq_none (by rw [ws_len]; omega)]
theorem leN_byte {l : List UInt8} {i : Nat} (h : i < l.length) : leN l / 2 ^ (8 * i) % 2 ^ 8 = (l.getD i 0).toNat := by
 conv => rhs; rw [← le_leN l, le_getD h]
 rw [UInt8.toNat_ofNat', p256]
theorem ws_bytes {l : List (BitVec 32)} {i : Nat} (h : i / 4 < l.length) : wsN l / 256 ^ i % 256 = ((l.getD (i / 4) 0) >>> (8 * (i % 4))).toNat % 256 := by
 conv => rhs; rw [← ws_wsN l, ws_getD h]
 rw [BitVec.toNat_ushiftRight, BitVec.toNat_ofNat, Nat.shiftRight_eq_div_pow]
 have dm := Nat.div_add_mod i 4
 have ml := Nat.mod_lt i (show 4 > 0 by omega)
 rw [show 256 ^ i = 2 ^ (32 * (i / 4)) * 2 ^ (8 * (i % 4)) from by rw [p256, ← Nat.pow_add]; congr 1; omega, ← Nat.div_div_eq_div_mul]
 generalize wsN l / 2 ^ (32 * (i / 4)) = X
 have : X % 2 ^ 32 / 2 ^ (8 * (i % 4)) = X / 2 ^ (8 * (i % 4)) % 2 ^ (32 - 8 * (i % 4)) := by
  rw [show (2 : Nat) ^ 32 = 2 ^ (8 * (i % 4)) * 2 ^ (32 - 8 * (i % 4)) from by rw [← Nat.pow_add]; congr 1; omega, Nat.mod_mul_right_div_self]
 rw [this]
 exact (Nat.mod_mod_of_dvd _ (show 256 ∣ 2 ^ (32 - 8 * (i % 4)) from by
  rw [show 32 - 8 * (i % 4) = 8 + (24 - 8 * (i % 4)) from by omega, Nat.pow_add]; exact Nat.dvd_mul_right ..)).symm
theorem ws_bit {l : List (BitVec 32)} {i : Nat} (h : i / 32 < l.length) : ((l.getD (i / 32) 0) >>> (i % 32)).toNat % 2 = wsN l / 2 ^ i % 2 := by
 conv => lhs; rw [← ws_wsN l, ws_getD h]
 rw [BitVec.toNat_ushiftRight, Nat.shiftRight_eq_div_pow, BitVec.toNat_ofNat, bit_test, bit_test (wsN l), Nat.testBit_mod_two_pow, Nat.testBit_div_two_pow]
 have dm := Nat.div_add_mod i 32
 have ml := Nat.mod_lt i (show 32 > 0 by omega)
 rw [show i % 32 + 32 * (i / 32) = i from by omega]; simp [ml]
theorem shl1 {r c : BitVec 32} (hc : c.toNat ≤ 1) : (r <<< 1 ||| c).toNat + 4294967296 * (r >>> 31).toNat = 2 * r.toNat + c.toNat := by
 rw [BitVec.toNat_or, BitVec.toNat_shiftLeft, BitVec.toNat_ushiftRight, Nat.shiftRight_eq_div_pow, Nat.shiftLeft_eq]
 have := r.isLt
 have e : r.toNat * 2 ^ 1 % 2 ^ 32 = 2 ^ 1 * (r.toNat % 2 ^ 31) := by omega
 rw [e, ← Nat.two_pow_add_eq_or_of_lt (show c.toNat < 2 ^ 1 by omega)]
 omega
theorem dbl_step {a rl : List (BitVec 32)} {k b : Nat} {c : BitVec 32} (ha : a.length = k) (hk : k < rl.length) (hc : c.toNat ≤ 1) (h : wsN a + 2 ^ (32 * k) * c.toNat = 2 * wsN (rl.take k) + b) :
 wsN (a ++ [(rl.getD k 0) <<< 1 ||| c]) + 2 ^ (32 * (k + 1)) * ((rl.getD k 0) >>> 31).toNat = 2 * wsN (rl.take (k + 1)) + b ∧ ((rl.getD k 0) >>> 31).toNat ≤ 1 := by
 have e := shl1 (r := rl.getD k 0) hc
 refine ⟨?_, ?_⟩
 ·
  rw [wsN_snoc, ha, wsN_take hk, p32s, Nat.mul_assoc]
  have := congrArg (fun x => 2 ^ (32 * k) * x) e
  simp only [Nat.mul_add, Nat.mul_left_comm _ 2] at this
  omega
 · rw [BitVec.toNat_ushiftRight, Nat.shiftRight_eq_div_pow]; have := (rl.getD k 0).isLt; omega
theorem sub_word {r o b : BitVec 32} (hb : b.toNat ≤ 1) : (r - o - b).toNat + o.toNat + b.toNat = r.toNat + 4294967296 * (if r.toNat < o.toNat + b.toNat then 1 else 0) := by
 have := r.isLt; have := o.isLt
 rw [BitVec.toNat_sub, BitVec.toNat_sub]
 split <;> omega
theorem sub_step {a rl ol : List (BitVec 32)} {k b b' : Nat} {d : BitVec 32} (ha : a.length = k) (hr : k < rl.length) (ho : k < ol.length) (hd : d.toNat + (ol.getD k 0).toNat + b = (rl.getD k 0).toNat + 4294967296 * b') (h : wsN a + wsN (ol.take k) = wsN (rl.take k) + 2 ^ (32 * k) * b) :
 wsN (a ++ [d]) + wsN (ol.take (k + 1)) = wsN (rl.take (k + 1)) + 2 ^ (32 * (k + 1)) * b' := by
 rw [wsN_snoc, ha, wsN_take hr, wsN_take ho, p32s, Nat.mul_assoc]
 have := congrArg (fun x => 2 ^ (32 * k) * x) hd
 simp only [Nat.mul_add] at this
 omega
theorem add_step {a rl : List (BitVec 32)} {k o c c' : Nat} {d : BitVec 32} {O : Nat} (ha : a.length = k) (hr : k < rl.length) (hd : d.toNat + 4294967296 * c' = (rl.getD k 0).toNat + o + c) (h : wsN a + 2 ^ (32 * k) * c = wsN (rl.take k) + O) :
 wsN (a ++ [d]) + 2 ^ (32 * (k + 1)) * c' = wsN (rl.take (k + 1)) + (O + 2 ^ (32 * k) * o) := by
 rw [wsN_snoc, ha, wsN_take hr, p32s, Nat.mul_assoc]
 have := congrArg (fun x => 2 ^ (32 * k) * x) hd
 simp only [Nat.mul_add] at this
 omega
theorem mod_step {L X b R : Nat} (hL : 0 < L) (hR : R = X % L) (hb : b ≤ 1) : (2 * X + b) % L = if 2 * R + b < L then 2 * R + b else 2 * R + b - L := by
 have l : R < L := hR ▸ Nat.mod_lt _ hL
 have : (2 * X + b) % L = (2 * R + b) % L := by
  rw [hR, Nat.add_mod, Nat.mul_mod, Nat.add_mod (2 * (X % L)), Nat.mul_mod 2 (X % L), Nat.mod_mod]
 rw [this]
 split
 · exact Nat.mod_eq_of_lt (by assumption)
 · rw [Nat.mod_eq_sub_mod (by omega), Nat.mod_eq_of_lt (by omega)]
theorem mul_step {ol : List (BitVec 32)} {j lo hi a b c N : Nat} {v : BitVec 32} (hj : j < ol.length) (hv : v.toNat = lo) (hs : c + (ol.getD j 0).toNat + a * b = lo + 4294967296 * hi) (h : wsN ol + 2 ^ (32 * j) * c = N) :
 wsN (ol.set j v) + 2 ^ (32 * (j + 1)) * hi = N + 2 ^ (32 * j) * (a * b) := by
 have e := wsN_set (v := v) hj
 rw [p32s, Nat.mul_assoc]
 have := congrArg (fun x => 2 ^ (32 * j) * x) hs
 simp only [Nat.mul_add] at this
 rw [hv] at e
 omega
theorem getD_set_ne {l : List (BitVec 32)} {i j : Nat} {v : BitVec 32} (h : i ≠ j) : (l.set i v).getD j 0 = l.getD j 0 := by
 rw [List.getD_eq_getElem?_getD, List.getElem?_set_ne h, List.getD_eq_getElem?_getD]
def clampL (l : List UInt8) : List UInt8 := (l.set 0 (l.getD 0 0 &&& 248)).set 31 ((l.getD 31 0 &&& 127) ||| 64)
theorem leN_split {l : List UInt8} : ∀ {k}, k < l.length → leN l = leN (l.take k) + 256 ^ k * ((l.getD k 0).toNat + 256 * leN (l.drop (k + 1))) := by
 induction l with
 | nil => intro k h; simp at h
 | cons b l ih =>
  intro k h
  cases k with
  | zero => show b.toNat + 256 * leN l = 0 + 1 * (b.toNat + 256 * leN l); omega
  | succ k =>
   show b.toNat + 256 * leN l = b.toNat + 256 * leN (l.take k) + 256 ^ (k + 1) * ((l.getD k 0).toNat + 256 * leN (l.drop (k + 1)))
   have h' : k < l.length := by simpa using h
   rw [ih h', Nat.pow_succ, Nat.mul_comm (256 ^ k) 256, Nat.mul_assoc]; omega
theorem clampL_len (l : List UInt8) : (clampL l).length = l.length := by simp [clampL]
theorem clamp_spec {l : List UInt8} (h : l.length = 32) : leN (clampL l) % 8 = 0 ∧ 2 ^ 254 ≤ leN (clampL l) ∧ leN (clampL l) < 2 ^ 255 := by
 have hl := clampL_len l
 have g0 : (clampL l).getD 0 0 = l.getD 0 0 &&& 248 := by
  unfold clampL
  rw [List.getD_eq_getElem?_getD, List.getElem?_set_ne (by decide), List.getElem?_set_self (by omega)]; rfl
 have g31 : (clampL l).getD 31 0 = (l.getD 31 0 &&& 127) ||| 64 := by
  unfold clampL
  rw [List.getD_eq_getElem?_getD, List.getElem?_set_self (by rw [List.length_set]; omega)]; rfl
 have s0 := leN_split (l := clampL l) (k := 0) (by omega)
 have s31 := leN_split (l := clampL l) (k := 31) (by omega)
 have d : (clampL l).drop 32 = [] := List.drop_eq_nil_of_le (by omega)
 have t := leN_lt ((clampL l).take 31)
 rw [List.length_take, Nat.min_eq_left (by omega)] at t
 rw [show 31 + 1 = 32 from rfl, d, g31] at s31
 rw [g0] at s0
 have B0 : ∀ n : Fin 256, (UInt8.ofNat n.val &&& 248).toNat % 8 = 0 := by decide +kernel
 have b0 : ∀ x : UInt8, (x &&& 248).toNat % 8 = 0 := fun x => by have := B0 ⟨x.toNat, x.toNat_lt⟩; rwa [UInt8.ofNat_toNat] at this
 have B31 : ∀ n : Fin 256, 64 ≤ ((UInt8.ofNat n.val &&& 127) ||| 64).toNat ∧ ((UInt8.ofNat n.val &&& 127) ||| 64).toNat < 128 := by decide +kernel
 have b31 : ∀ x : UInt8, 64 ≤ ((x &&& 127) ||| 64).toNat ∧ ((x &&& 127) ||| 64).toNat < 128 := fun x => by have := B31 ⟨x.toNat, x.toNat_lt⟩; rwa [UInt8.ofNat_toNat] at this
 have c0 := b0 (l.getD 0 0); have c31 := b31 (l.getD 31 0)
 generalize (l.getD 0 0 &&& 248).toNat = u at *
 generalize ((l.getD 31 0 &&& 127) ||| 64).toNat = v at *
 have z : leN ([] : List UInt8) = 0 := rfl
 rw [z] at s31
 refine ⟨?_, ?_, ?_⟩
 · rw [s0, show leN ((clampL l).take 0) = 0 from rfl]; omega
 · rw [s31]; omega
 · rw [s31]; omega
end Go.Proofs.YtfjedhmffccgnaaGreatDoor.Ed
namespace Go.Proofs.YtfjedhmffccgnaaGreatDoor.Ed
def encP (Q : Pt crv) : List UInt8 := le 32 (Q.y.val + if Q.x.odd then 2 ^ 255 else 0)
theorem P_lt : P < 2 ^ 255 := by decide +kernel
theorem encP_len (Q : Pt crv) : (encP Q).length = 32 := le_len _ _
theorem val_lt (a : Fp) : a.val < 2 ^ 255 := Nat.lt_trans a.lt P_lt
theorem le_high {n : Nat} (h : n < 2 ^ 255) : (le 32 n).set 31 ((le 32 n).getD 31 0 ||| 128) = le 32 (n + 2 ^ 255) := by
 have b := le_bit (n := n + 2 ^ 255) (i := 255) (by omega)
 rw [Nat.add_mod_right, Nat.mod_eq_of_lt h, show (n + 2 ^ 255) / 2 ^ 255 % 2 = 1 from by omega, Nat.mod_eq_of_lt (a := n + 2 ^ 255) (b := 2 ^ (255 + 1)) (by omega)] at b
 exact b
theorem le_low (n : Nat) : (le 32 n).set 31 ((le 32 n).getD 31 0 &&& 127) = le 32 (n % 2 ^ 255) := by
 apply List.ext_getElem?
 intro j
 rw [List.getElem?_set]
 by_cases hj : j < 32
 ·
  rw [le_get hj, le_get hj, le_len, le_getD (by omega)]
  by_cases c : 31 = j
  ·
   subst c
   rw [if_pos rfl, if_pos (by omega)]
   congr 1
   apply UInt8.toNat.inj
   rw [UInt8.toNat_and, UInt8.toNat_ofNat', UInt8.toNat_ofNat']
   have : ∀ x : Nat, x &&& 127 = x % 2 ^ 7 := fun x => Nat.and_two_pow_sub_one_eq_mod x 7
   show (n / 256 ^ 31 % 2 ^ 8) &&& 127 = _
   rw [this, p256]; omega
  ·
   rw [if_neg c]
   congr 1
   apply UInt8.toNat.inj
   rw [UInt8.toNat_ofNat', UInt8.toNat_ofNat', p256]
   have e : (2 : Nat) ^ 255 = 2 ^ (8 * j) * 2 ^ (255 - 8 * j) := by rw [← Nat.pow_add]; congr 1; omega
   rw [e, Nat.mod_mul_right_div_self]
   refine (Nat.mod_mod_of_dvd _ ?_).symm
   exact Nat.pow_dvd_pow 2 (by omega)
 · rw [List.getElem?_eq_none (by rw [le_len]; omega), if_neg (by omega), List.getElem?_eq_none (by rw [le_len]; omega)]
theorem leN_encP (Q : Pt crv) : leN (encP Q) = Q.y.val + if Q.x.odd then 2 ^ 255 else 0 := by
 unfold encP; rw [leN_le, Nat.mod_eq_of_lt]
 have := val_lt Q.y; split <;> omega
theorem encP_odd (Q : Pt crv) : leN (encP Q) / 2 ^ 255 % 2 = if Q.x.odd then 1 else 0 := by
 have := val_lt Q.y
 rw [leN_encP]; split <;> omega
theorem encP_y (Q : Pt crv) : leN (encP Q) % 2 ^ 255 = Q.y.val := by
 have := val_lt Q.y
 rw [leN_encP]; split <;> omega
end Go.Proofs.YtfjedhmffccgnaaGreatDoor.Ed
namespace Go.Proofs.YtfjedhmffccgnaaGreatDoor.Ed
theorem half_bit (n i : Nat) : n / 2 ^ i = 2 * (n / 2 ^ (i + 1)) + n / 2 ^ i % 2 := by
 rw [Nat.pow_succ, ← Nat.div_div_eq_div_mul]; omega
theorem pow_bit1 {x : Fp} {n i : Nat} (h : n / 2 ^ i % 2 = 1) : x ^ (n / 2 ^ i) = x ^ (n / 2 ^ (i + 1)) * x ^ (n / 2 ^ (i + 1)) * x := by
 rw [half_bit n i, h, Semiring.pow_succ, Nat.two_mul, Semiring.pow_add]
theorem pow_bit0 {x : Fp} {n i : Nat} (h : n / 2 ^ i % 2 = 0) : x ^ (n / 2 ^ i) = x ^ (n / 2 ^ (i + 1)) * x ^ (n / 2 ^ (i + 1)) := by
 rw [half_bit n i, h, Nat.add_zero, Nat.two_mul, Semiring.pow_add]
theorem smul_bit1 {A : Pt crv} {n i : Nat} (h : n / 2 ^ i % 2 = 1) : Pt.smul (n / 2 ^ i) A = ((Pt.smul (n / 2 ^ (i + 1)) A).add (Pt.smul (n / 2 ^ (i + 1)) A)).add A := by
 rw [half_bit n i, h, Nat.two_mul, ← Pt.smul_add]; rfl
theorem smul_bit0 {A : Pt crv} {n i : Nat} (h : n / 2 ^ i % 2 = 0) : Pt.smul (n / 2 ^ i) A = (Pt.smul (n / 2 ^ (i + 1)) A).add (Pt.smul (n / 2 ^ (i + 1)) A) := by
 rw [half_bit n i, h, Nat.add_zero, Nat.two_mul, ← Pt.smul_add]
theorem high_none {l : List UInt8} (h : l.length = 32) : leN l / 2 ^ 256 = 0 := by
 have := leN_lt l; rw [h] at this
 exact Nat.div_eq_of_lt (by simpa using this)
theorem low_all (n : Nat) : n / 2 ^ 0 = n := by rw [Nat.pow_zero, Nat.div_one]
theorem ones_less {n less : Nat} (h8 : 8 ≤ n) (hn : n ≤ 256) (hl : less ≤ 255) : (le 32 (2 ^ n - 1)).set 0 ((le 32 (2 ^ n - 1)).getD 0 0 - UInt8.ofNat less) = le 32 (2 ^ n - 1 - less) := by
 have e : (2 : Nat) ^ n = 256 * 2 ^ (n - 8) := by rw [show 256 = 2 ^ 8 from rfl, ← Nat.pow_add]; congr 1; omega
 have hp : 0 < 2 ^ (n - 8) := Nat.two_pow_pos _
 have h1 : ∀ m, le 32 m = UInt8.ofNat m :: le 31 (m / 256) := le_succ 31
 rw [h1 (2 ^ n - 1), h1 (2 ^ n - 1 - less)]
 show (UInt8.ofNat (2 ^ n - 1) - UInt8.ofNat less) :: _ = _
 rw [show (2 ^ n - 1) / 256 = (2 ^ n - 1 - less) / 256 from by omega]
 congr 1
 apply UInt8.toNat.inj
 rw [UInt8.toNat_sub, UInt8.toNat_ofNat', UInt8.toNat_ofNat', UInt8.toNat_ofNat']
 omega
end Go.Proofs.YtfjedhmffccgnaaGreatDoor.Ed
