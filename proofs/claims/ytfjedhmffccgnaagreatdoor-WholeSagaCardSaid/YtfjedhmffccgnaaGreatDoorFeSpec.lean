/- Numbers modulo 2^255 - 19 in five parts, and as bytes. Plain Lean: no walk in this text. -/
import Derived.Test.YtfjedhmffccgnaaGreatDoorNtSpec
open Lean.Grind
namespace Go.Proofs.YtfjedhmffccgnaaGreatDoor.Ed
structure L5 where
  a : BitVec 64
  b : BitVec 64
  c : BitVec 64
  d : BitVec 64
  e : BitVec 64
def w51 : Fp := fp (2 ^ 51)
theorem w51_five : w51 * w51 * w51 * w51 * w51 = fp 19 := by
 unfold w51; rw [← fp_mul, ← fp_mul, ← fp_mul, ← fp_mul, fp_eq]; decide +kernel
def five (a b c d e : Nat) : Fp := fp a + w51 * fp b + w51 * w51 * fp c + w51 * w51 * w51 * fp d + w51 * w51 * w51 * w51 * fp e
def L5.fe (x : L5) : Fp := five x.a.toNat x.b.toNat x.c.toNat x.d.toNat x.e.toNat
def L5.lt (k : Nat) (x : L5) : Prop := x.a.toNat < k ∧ x.b.toNat < k ∧ x.c.toNat < k ∧ x.d.toNat < k ∧ x.e.toNat < k
def L5.norm (x : L5) : Prop := x.a.toNat < 2 ^ 51 + 2 ^ 18 ∧ x.b.toNat < 2 ^ 51 ∧ x.c.toNat < 2 ^ 51 ∧ x.d.toNat < 2 ^ 51 ∧ x.e.toNat < 2 ^ 51
theorem five_add (a b c d e a' b' c' d' e' : Nat) : five (a + a') (b + b') (c + c') (d + d') (e + e') = five a b c d e + five a' b' c' d' e' := by
 unfold five; simp only [fp_add]; grind
theorem five_nat (a b c d e : Nat) : five a b c d e = fp (a + 2 ^ 51 * b + 2 ^ 102 * c + 2 ^ 153 * d + 2 ^ 204 * e) := by
 have e2 : fp (2 ^ 102) = w51 * w51 := by unfold w51; rw [← fp_mul]
 have e3 : fp (2 ^ 153) = w51 * w51 * w51 := by unfold w51; rw [← fp_mul, ← fp_mul]
 have e4 : fp (2 ^ 204) = w51 * w51 * w51 * w51 := by unfold w51; rw [← fp_mul, ← fp_mul, ← fp_mul]
 rw [fp_add, fp_add, fp_add, fp_add, fp_mul, fp_mul, fp_mul, fp_mul, e2, e3, e4]; rfl
abbrev M51 : BitVec 64 := 2251799813685247#64
theorem and_mask (x : BitVec 64) : (x &&& M51).toNat = x.toNat % 2 ^ 51 := by
 rw [BitVec.toNat_and]; exact Nat.and_two_pow_sub_one_eq_mod _ 51
theorem shr51 (x : BitVec 64) : (x >>> 51).toNat = x.toNat / 2 ^ 51 := by
 rw [BitVec.toNat_ushiftRight, Nat.shiftRight_eq_div_pow]
theorem add_nat {x y : BitVec 64} (h : x.toNat + y.toNat < 2 ^ 64) : (x + y).toNat = x.toNat + y.toNat := by
 rw [BitVec.toNat_add, Nat.mod_eq_of_lt h]
theorem mul_nat {x y : BitVec 64} (h : x.toNat * y.toNat < 2 ^ 64) : (x * y).toNat = x.toNat * y.toNat := by
 rw [BitVec.toNat_mul, Nat.mod_eq_of_lt h]
theorem ofNat_nat {n : Nat} (h : n < 2 ^ 64) : (BitVec.ofNat 64 n).toNat = n := by rw [BitVec.toNat_ofNat, Nat.mod_eq_of_lt h]
def L5.carried (x : L5) : L5 :=
  let a := x.a + 0#64
  let b := x.b + a >>> 51
  let c := x.c + b >>> 51
  let d := x.d + c >>> 51
  let e := x.e + d >>> 51
  ⟨(a &&& M51) + 19#64 * (e >>> 51), b &&& M51, c &&& M51, d &&& M51, e &&& M51⟩
theorem fp_divmod (a : Nat) : fp a = fp (a % 2 ^ 51) + w51 * fp (a / 2 ^ 51) := by
 conv => lhs; rw [← Nat.mod_add_div a (2 ^ 51)]
 rw [fp_add, fp_mul]; rfl
theorem carry_five (a b c d e : Nat) :
 let b' := b + a / 2 ^ 51
 let c' := c + b' / 2 ^ 51
 let d' := d + c' / 2 ^ 51
 let e' := e + d' / 2 ^ 51
 five (a % 2 ^ 51 + 19 * (e' / 2 ^ 51)) (b' % 2 ^ 51) (c' % 2 ^ 51) (d' % 2 ^ 51) (e' % 2 ^ 51) = five a b c d e := by
 intro b' c' d' e'
 have ha := fp_divmod a
 have hb : fp b + fp (a / 2 ^ 51) = _ := (fp_add b (a / 2 ^ 51)).symm.trans (fp_divmod b')
 have hc : fp c + fp (b' / 2 ^ 51) = _ := (fp_add c (b' / 2 ^ 51)).symm.trans (fp_divmod c')
 have hd : fp d + fp (c' / 2 ^ 51) = _ := (fp_add d (c' / 2 ^ 51)).symm.trans (fp_divmod d')
 have he : fp e + fp (d' / 2 ^ 51) = _ := (fp_add e (d' / 2 ^ 51)).symm.trans (fp_divmod e')
 have w := w51_five
 unfold five
 simp only [fp_add, fp_mul]
 generalize w51 = W at *; generalize fp 19 = N at *
 generalize fp (a % 2 ^ 51) = a0 at *; generalize fp (a / 2 ^ 51) = a1 at *
 generalize fp (b' % 2 ^ 51) = b0 at *; generalize fp (b' / 2 ^ 51) = b1 at *
 generalize fp (c' % 2 ^ 51) = c0 at *; generalize fp (c' / 2 ^ 51) = c1 at *
 generalize fp (d' % 2 ^ 51) = d0 at *; generalize fp (d' / 2 ^ 51) = d1 at *
 generalize fp (e' % 2 ^ 51) = e0 at *; generalize fp (e' / 2 ^ 51) = e1 at *
 generalize fp a = fa at *; generalize fp b = fb at *; generalize fp c = fc at *; generalize fp d = fd at *; generalize fp e = fe at *
 clear_value b' c' d' e'
 clear b' c' d' e'
 grind
theorem L5.carried_spec {x : L5} (h : x.lt (2 ^ 63)) : x.carried.norm ∧ x.carried.fe = x.fe := by
 obtain ⟨ha, hb, hc, hd, he⟩ := h
 have e0 : (x.a + 0#64).toNat = x.a.toNat := by rw [BitVec.add_zero]
 have e1 : (x.b + (x.a + 0#64) >>> 51).toNat = x.b.toNat + x.a.toNat / 2 ^ 51 := by rw [add_nat (by rw [shr51, e0]; omega), shr51, e0]
 have e2 : (x.c + (x.b + (x.a + 0#64) >>> 51) >>> 51).toNat = x.c.toNat + (x.b.toNat + x.a.toNat / 2 ^ 51) / 2 ^ 51 := by rw [add_nat (by rw [shr51, e1]; omega), shr51, e1]
 have e3 : (x.d + (x.c + (x.b + (x.a + 0#64) >>> 51) >>> 51) >>> 51).toNat = x.d.toNat + (x.c.toNat + (x.b.toNat + x.a.toNat / 2 ^ 51) / 2 ^ 51) / 2 ^ 51 := by rw [add_nat (by rw [shr51, e2]; omega), shr51, e2]
 have e4 : (x.e + (x.d + (x.c + (x.b + (x.a + 0#64) >>> 51) >>> 51) >>> 51) >>> 51).toNat = x.e.toNat + (x.d.toNat + (x.c.toNat + (x.b.toNat + x.a.toNat / 2 ^ 51) / 2 ^ 51) / 2 ^ 51) / 2 ^ 51 := by rw [add_nat (by rw [shr51, e3]; omega), shr51, e3]
 have m19 : ∀ y : BitVec 64, (19#64 * y >>> 51).toNat = 19 * (y.toNat / 2 ^ 51) := fun y => by rw [mul_nat (by rw [shr51]; show 19 * _ < _; have := y.isLt; omega), shr51]; rfl
 have ea : (((x.a + 0#64) &&& M51) + 19#64 * (x.e + (x.d + (x.c + (x.b + (x.a + 0#64) >>> 51) >>> 51) >>> 51) >>> 51) >>> 51).toNat = x.a.toNat % 2 ^ 51 + 19 * ((x.e.toNat + (x.d.toNat + (x.c.toNat + (x.b.toNat + x.a.toNat / 2 ^ 51) / 2 ^ 51) / 2 ^ 51) / 2 ^ 51) / 2 ^ 51) := by
  rw [add_nat (by rw [and_mask, m19, e4, e0]; omega), and_mask, m19, e4, e0]
 constructor
 ·
  unfold L5.norm L5.carried
  dsimp only
  rw [ea, and_mask, and_mask, and_mask, and_mask]
  omega
 ·
  unfold L5.fe L5.carried
  dsimp only
  rw [ea, and_mask, and_mask, and_mask, and_mask, e1, e2, e3, e4]
  exact carry_five _ _ _ _ _
theorem L5.norm.lt {x : L5} (h : x.norm) : x.lt (2 ^ 52) := by unfold L5.norm at h; unfold L5.lt; omega
def L5.add (x y : L5) : L5 := ⟨x.a + y.a, x.b + y.b, x.c + y.c, x.d + y.d, x.e + y.e⟩
theorem L5.add_spec {x y : L5} {k m : Nat} (hx : x.lt k) (hy : y.lt m) (h : k + m ≤ 2 ^ 64) : (x.add y).lt (k + m) ∧ (x.add y).fe = x.fe + y.fe := by
 obtain ⟨a, b, c, d, e⟩ := hx; obtain ⟨a', b', c', d', e'⟩ := hy
 have s : ∀ {u v : BitVec 64}, u.toNat < k → v.toNat < m → (u + v).toNat = u.toNat + v.toNat := fun hu hv => add_nat (by omega)
 refine ⟨?_, ?_⟩
 ·
  unfold L5.lt L5.add; dsimp only
  rw [s a a', s b b', s c c', s d d', s e e']; omega
 ·
  unfold L5.fe L5.add; dsimp only
  rw [s a a', s b b', s c c', s d d', s e e', five_add]
def L5.sub (x y : L5) : L5 := ⟨x.a + (9007199254740988#64 - y.a) - 72#64, x.b + (9007199254740988#64 - y.b), x.c + (9007199254740988#64 - y.c), x.d + (9007199254740988#64 - y.d), x.e + (9007199254740988#64 - y.e)⟩
theorem sub_nat {x y : BitVec 64} (h : y.toNat ≤ x.toNat) : (x - y).toNat = x.toNat - y.toNat := by
 rw [BitVec.toNat_sub]; have := x.isLt; have := y.isLt
 rw [show 2 ^ 64 - y.toNat + x.toNat = (x.toNat - y.toNat) + 2 ^ 64 from by omega, Nat.add_mod_right, Nat.mod_eq_of_lt (by omega)]
theorem five_congr {a b c d e a' b' c' d' e' : Nat} (h1 : a = a') (h2 : b = b') (h3 : c = c') (h4 : d = d') (h5 : e = e') : five a b c d e = five a' b' c' d' e' := by subst h1 h2 h3 h4 h5; rfl
theorem five_fourP : five 9007199254740916 9007199254740988 9007199254740988 9007199254740988 9007199254740988 = 0 := by
 rw [five_nat, fp_zero_iff]; decide +kernel
theorem L5.sub_spec {x y : L5} (hx : x.norm) (hy : y.norm) : (x.sub y).carried.norm ∧ (x.sub y).carried.fe = x.fe - y.fe := by
 obtain ⟨a, b, c, d, e⟩ := hx; obtain ⟨a', b', c', d', e'⟩ := hy
 have s : ∀ {u v : BitVec 64}, u.toNat < 2 ^ 52 → v.toNat < 2 ^ 52 → (u + (9007199254740988#64 - v)).toNat = u.toNat + (9007199254740988 - v.toNat) := fun {u v} hu hv => by
  have : (9007199254740988#64 - v).toNat = 9007199254740988 - v.toNat := sub_nat (by show _ ≤ 9007199254740988; omega)
  rw [add_nat (by rw [this]; omega), this]
 have ea : (x.a + (9007199254740988#64 - y.a) - 72#64).toNat = x.a.toNat + (9007199254740916 - y.a.toNat) := by
  rw [sub_nat (by rw [s (by omega) (by omega)]; show 72 ≤ _; omega), s (by omega) (by omega)]; show _ - 72 = _; omega
 have eb := s (show x.b.toNat < 2 ^ 52 by omega) (show y.b.toNat < 2 ^ 52 by omega)
 have ec := s (show x.c.toNat < 2 ^ 52 by omega) (show y.c.toNat < 2 ^ 52 by omega)
 have ed := s (show x.d.toNat < 2 ^ 52 by omega) (show y.d.toNat < 2 ^ 52 by omega)
 have ee := s (show x.e.toNat < 2 ^ 52 by omega) (show y.e.toNat < 2 ^ 52 by omega)
 have l : (x.sub y).lt (2 ^ 63) := by unfold L5.lt L5.sub; dsimp only; rw [ea, eb, ec, ed, ee]; omega
 obtain ⟨n, v⟩ := L5.carried_spec l
 refine ⟨n, v.trans ?_⟩
 have : (x.sub y).fe + y.fe = x.fe + five 9007199254740916 9007199254740988 9007199254740988 9007199254740988 9007199254740988 := by
  unfold L5.fe L5.sub; dsimp only
  rw [← five_add, ← five_add, ea, eb, ec, ed, ee]
  exact five_congr (by omega) (by omega) (by omega) (by omega) (by omega)
 rw [five_fourP] at this
 grind
structure Wd where
  hi : BitVec 64
  lo : BitVec 64
def Wd.ofN (n : Nat) : Wd := ⟨BitVec.ofNat 64 (n / 2 ^ 64), BitVec.ofNat 64 n⟩
def Wd.split (w : Wd) : BitVec 64 × BitVec 64 := (w.hi <<< 13 ||| w.lo >>> 51, w.lo &&& M51)
theorem Wd.split_ofN {n : Nat} (h : n < 2 ^ 115) : (Wd.ofN n).split = (BitVec.ofNat 64 (n / 2 ^ 51), BitVec.ofNat 64 (n % 2 ^ 51)) := by
 have h1 : ((BitVec.ofNat 64 (n / 2 ^ 64)) <<< 13).toNat = n / 2 ^ 64 * 2 ^ 13 := by
  rw [BitVec.toNat_shiftLeft, Nat.shiftLeft_eq, BitVec.toNat_ofNat]
  rw [Nat.mod_eq_of_lt (show n / 2 ^ 64 < 2 ^ 64 by omega), Nat.mod_eq_of_lt (by omega)]
 have h2 : ((BitVec.ofNat 64 n) >>> 51).toNat = n % 2 ^ 64 / 2 ^ 51 := by rw [shr51, BitVec.toNat_ofNat]
 refine Prod.ext ?_ ?_
 ·
  refine BitVec.eq_of_toNat_eq ?_
  show ((BitVec.ofNat 64 (n / 2 ^ 64)) <<< 13 ||| (BitVec.ofNat 64 n) >>> 51).toNat = _
  rw [BitVec.toNat_or, h1, h2, ofNat_nat (show n / 2 ^ 51 < 2 ^ 64 by omega), Nat.mul_comm, ← Nat.two_pow_add_eq_or_of_lt (show n % 2 ^ 64 / 2 ^ 51 < 2 ^ 13 by omega)]
  omega
 ·
  refine BitVec.eq_of_toNat_eq ?_
  show ((BitVec.ofNat 64 n) &&& M51).toNat = _
  rw [and_mask, BitVec.toNat_ofNat, BitVec.toNat_ofNat]; omega
def L5.mulRaw (x y : L5) : L5 :=
  let n1 := 19#64 * x.b
  let n2 := 19#64 * x.c
  let n3 := 19#64 * x.d
  let n4 := 19#64 * x.e
  let p0 := (Wd.ofN (x.a.toNat * y.a.toNat + n1.toNat * y.e.toNat + n2.toNat * y.d.toNat + n3.toNat * y.c.toNat + n4.toNat * y.b.toNat)).split
  let p1 := (Wd.ofN (x.a.toNat * y.b.toNat + x.b.toNat * y.a.toNat + n2.toNat * y.e.toNat + n3.toNat * y.d.toNat + n4.toNat * y.c.toNat)).split
  let p2 := (Wd.ofN (x.a.toNat * y.c.toNat + x.b.toNat * y.b.toNat + x.c.toNat * y.a.toNat + n3.toNat * y.e.toNat + n4.toNat * y.d.toNat)).split
  let p3 := (Wd.ofN (x.a.toNat * y.d.toNat + x.b.toNat * y.c.toNat + x.c.toNat * y.b.toNat + x.d.toNat * y.a.toNat + n4.toNat * y.e.toNat)).split
  let p4 := (Wd.ofN (x.a.toNat * y.e.toNat + x.b.toNat * y.d.toNat + x.c.toNat * y.c.toNat + x.d.toNat * y.b.toNat + x.e.toNat * y.a.toNat)).split
  let w := (Wd.ofN (19 * p4.1.toNat + p0.2.toNat)).split
  ⟨w.2, p1.2 + p0.1 + w.1, p2.2 + p1.1, p3.2 + p2.1, p4.2 + p3.1⟩
theorem mul_five {a b c d e a' b' c' d' e' s0 s1 s2 s3 s4 w : Nat}
 (h0 : s0 = a * a' + 19 * b * e' + 19 * c * d' + 19 * d * c' + 19 * e * b')
 (h1 : s1 = a * b' + b * a' + 19 * c * e' + 19 * d * d' + 19 * e * c')
 (h2 : s2 = a * c' + b * b' + c * a' + 19 * d * e' + 19 * e * d')
 (h3 : s3 = a * d' + b * c' + c * b' + d * a' + 19 * e * e')
 (h4 : s4 = a * e' + b * d' + c * c' + d * b' + e * a')
 (hw : w = 19 * (s4 / 2 ^ 51) + s0 % 2 ^ 51) :
 five (w % 2 ^ 51) (s1 % 2 ^ 51 + s0 / 2 ^ 51 + w / 2 ^ 51) (s2 % 2 ^ 51 + s1 / 2 ^ 51) (s3 % 2 ^ 51 + s2 / 2 ^ 51) (s4 % 2 ^ 51 + s3 / 2 ^ 51) = five a b c d e * five a' b' c' d' e' := by
 have k0 := fp_divmod s0; have k1 := fp_divmod s1; have k2 := fp_divmod s2; have k3 := fp_divmod s3; have k4 := fp_divmod s4; have kw := fp_divmod w
 have w5 := w51_five
 have f0 := congrArg fp h0; have f1 := congrArg fp h1; have f2 := congrArg fp h2; have f3 := congrArg fp h3; have f4 := congrArg fp h4; have fw := congrArg fp hw
 unfold five
 simp only [fp_add, fp_mul] at f0 f1 f2 f3 f4 fw ⊢
 clear h0 h1 h2 h3 h4 hw
 generalize fp (s0 % 2 ^ 51) = l0 at *; generalize fp (s0 / 2 ^ 51) = c0 at *
 generalize fp (s1 % 2 ^ 51) = l1 at *; generalize fp (s1 / 2 ^ 51) = c1 at *
 generalize fp (s2 % 2 ^ 51) = l2 at *; generalize fp (s2 / 2 ^ 51) = c2 at *
 generalize fp (s3 % 2 ^ 51) = l3 at *; generalize fp (s3 / 2 ^ 51) = c3 at *
 generalize fp (s4 % 2 ^ 51) = l4 at *; generalize fp (s4 / 2 ^ 51) = c4 at *
 generalize fp (w % 2 ^ 51) = lw at *; generalize fp (w / 2 ^ 51) = cw at *
 generalize fp s0 = S0 at *; generalize fp s1 = S1 at *; generalize fp s2 = S2 at *; generalize fp s3 = S3 at *; generalize fp s4 = S4 at *; generalize fp w = SW at *
 generalize fp a = A at *; generalize fp b = B at *; generalize fp c = C at *; generalize fp d = D at *; generalize fp e = E at *
 generalize fp a' = A' at *; generalize fp b' = B' at *; generalize fp c' = C' at *; generalize fp d' = D' at *; generalize fp e' = E' at *
 generalize w51 = W at *; generalize fp 19 = N at *
 have e0 : l0 = S0 - W * c0 := by grind
 have e1 : l1 = S1 - W * c1 := by grind
 have e2 : l2 = S2 - W * c2 := by grind
 have e3 : l3 = S3 - W * c3 := by grind
 have e4 : l4 = S4 - W * c4 := by grind
 have ew : lw = SW - W * cw := by grind
 have eN : N = W * W * W * W * W := w5.symm
 clear k0 k1 k2 k3 k4 kw w5
 subst e0 e1 e2 e3 e4 ew
 subst fw f0 f1 f2 f3 f4
 subst eN
 grind
theorem L5.mul_spec {x y : L5} (hx : x.norm) (hy : y.norm) : (x.mulRaw y).carried.norm ∧ (x.mulRaw y).carried.fe = x.fe * y.fe := by
 obtain ⟨a, b, c, d, e⟩ := hx; obtain ⟨a', b', c', d', e'⟩ := hy
 have n19 : ∀ {u : BitVec 64}, u.toNat < 2 ^ 51 → (19#64 * u).toNat = 19 * u.toNat := fun hu => mul_nat (by show 19 * _ < _; omega)
 have B : ∀ {u v : Nat}, u < 2 ^ 52 → v < 2 ^ 52 → u * v < 2 ^ 104 := fun hu hv => Nat.lt_of_lt_of_le (Nat.mul_lt_mul_of_lt_of_lt hu hv) (by decide)
 have B19 : ∀ {u v : Nat}, u < 2 ^ 52 → v < 2 ^ 52 → 19 * u * v < 19 * 2 ^ 104 := fun {u v} hu hv => by rw [Nat.mul_assoc]; have := B hu hv; omega
 have a2 : x.a.toNat < 2 ^ 52 := by omega
 have b2 : x.b.toNat < 2 ^ 52 := by omega
 have c2 : x.c.toNat < 2 ^ 52 := by omega
 have d2 : x.d.toNat < 2 ^ 52 := by omega
 have e2 : x.e.toNat < 2 ^ 52 := by omega
 have a2' : y.a.toNat < 2 ^ 52 := by omega
 have b2' : y.b.toNat < 2 ^ 52 := by omega
 have c2' : y.c.toNat < 2 ^ 52 := by omega
 have d2' : y.d.toNat < 2 ^ 52 := by omega
 have e2' : y.e.toNat < 2 ^ 52 := by omega
 have H : ∃ s0 s1 s2 s3 s4 w : Nat, s0 < 2 ^ 112 ∧ s1 < 2 ^ 112 ∧ s2 < 2 ^ 112 ∧ s3 < 2 ^ 112 ∧ s4 < 2 ^ 112 ∧ w = 19 * (s4 / 2 ^ 51) + s0 % 2 ^ 51 ∧
  (s0 = x.a.toNat * y.a.toNat + 19 * x.b.toNat * y.e.toNat + 19 * x.c.toNat * y.d.toNat + 19 * x.d.toNat * y.c.toNat + 19 * x.e.toNat * y.b.toNat) ∧
  (s1 = x.a.toNat * y.b.toNat + x.b.toNat * y.a.toNat + 19 * x.c.toNat * y.e.toNat + 19 * x.d.toNat * y.d.toNat + 19 * x.e.toNat * y.c.toNat) ∧
  (s2 = x.a.toNat * y.c.toNat + x.b.toNat * y.b.toNat + x.c.toNat * y.a.toNat + 19 * x.d.toNat * y.e.toNat + 19 * x.e.toNat * y.d.toNat) ∧
  (s3 = x.a.toNat * y.d.toNat + x.b.toNat * y.c.toNat + x.c.toNat * y.b.toNat + x.d.toNat * y.a.toNat + 19 * x.e.toNat * y.e.toNat) ∧
  (s4 = x.a.toNat * y.e.toNat + x.b.toNat * y.d.toNat + x.c.toNat * y.c.toNat + x.d.toNat * y.b.toNat + x.e.toNat * y.a.toNat) ∧
  x.mulRaw y = ⟨BitVec.ofNat 64 (w % 2 ^ 51), BitVec.ofNat 64 (s1 % 2 ^ 51) + BitVec.ofNat 64 (s0 / 2 ^ 51) + BitVec.ofNat 64 (w / 2 ^ 51), BitVec.ofNat 64 (s2 % 2 ^ 51) + BitVec.ofNat 64 (s1 / 2 ^ 51), BitVec.ofNat 64 (s3 % 2 ^ 51) + BitVec.ofNat 64 (s2 / 2 ^ 51), BitVec.ofNat 64 (s4 % 2 ^ 51) + BitVec.ofNat 64 (s3 / 2 ^ 51)⟩ := by
  have q := @B; have q9 := @B19
  have l0 := q a2 a2'; have l1 := q9 b2 e2'; have l2 := q9 c2 d2'; have l3 := q9 d2 c2'; have l4 := q9 e2 b2'
  have m0 := q a2 b2'; have m1 := q b2 a2'; have m2 := q9 c2 e2'; have m3 := q9 d2 d2'; have m4 := q9 e2 c2'
  have o0 := q a2 c2'; have o1 := q b2 b2'; have o2 := q c2 a2'; have o3 := q9 d2 e2'; have o4 := q9 e2 d2'
  have r0 := q a2 d2'; have r1 := q b2 c2'; have r2 := q c2 b2'; have r3 := q d2 a2'; have r4 := q9 e2 e2'
  have t0 := q a2 e2'; have t1 := q b2 d2'; have t2 := q c2 c2'; have t3 := q d2 b2'; have t4 := q e2 a2'
  refine ⟨_, _, _, _, _, _, ?_, ?_, ?_, ?_, ?_, rfl, rfl, rfl, rfl, rfl, rfl, ?_⟩
  · omega
  · omega
  · omega
  · omega
  · omega
  ·
   unfold L5.mulRaw
   dsimp only
   rw [n19 b, n19 c, n19 d, n19 e]
   rw [Wd.split_ofN (n := x.a.toNat * y.a.toNat + _ + _ + _ + _) (by omega), Wd.split_ofN (n := x.a.toNat * y.b.toNat + _ + _ + _ + _) (by omega), Wd.split_ofN (n := x.a.toNat * y.c.toNat + _ + _ + _ + _) (by omega), Wd.split_ofN (n := x.a.toNat * y.d.toNat + _ + _ + _ + _) (by omega), Wd.split_ofN (n := x.a.toNat * y.e.toNat + _ + _ + _ + _) (by omega)]
   dsimp only
   rw [ofNat_nat (n := (x.a.toNat * y.e.toNat + _ + _ + _ + _) / 2 ^ 51) (by omega), ofNat_nat (n := (x.a.toNat * y.a.toNat + _ + _ + _ + _) % 2 ^ 51) (by omega)]
   rw [Wd.split_ofN (by omega)]
 obtain ⟨s0, s1, s2, s3, s4, w, u0, u1, u2, u3, u4, hw, h0, h1, h2, h3, h4, hm⟩ := H
 have key := mul_five h0 h1 h2 h3 h4 hw
 clear h0 h1 h2 h3 h4
 have N : ∀ {n : Nat}, n < 2 ^ 62 → (BitVec.ofNat 64 n).toNat = n := fun h => ofNat_nat (by omega)
 have A : ∀ {u v : BitVec 64}, u.toNat < 2 ^ 62 → v.toNat < 2 ^ 62 → (u + v).toNat = u.toNat + v.toNat := fun hu hv => add_nat (by omega)
 have v0 : (BitVec.ofNat 64 (w % 2 ^ 51)).toNat = w % 2 ^ 51 := N (by omega)
 have v1 : (BitVec.ofNat 64 (s1 % 2 ^ 51) + BitVec.ofNat 64 (s0 / 2 ^ 51) + BitVec.ofNat 64 (w / 2 ^ 51)).toNat = s1 % 2 ^ 51 + s0 / 2 ^ 51 + w / 2 ^ 51 := by
  rw [add_nat (by rw [A (by rw [N (by omega)]; omega) (by rw [N (by omega)]; omega), N (by omega), N (by omega), N (by omega)]; omega), A (by rw [N (by omega)]; omega) (by rw [N (by omega)]; omega), N (by omega), N (by omega), N (by omega)]
 have vA : ∀ {p r : Nat}, r < 2 ^ 112 → (BitVec.ofNat 64 (p % 2 ^ 51) + BitVec.ofNat 64 (r / 2 ^ 51)).toNat = p % 2 ^ 51 + r / 2 ^ 51 := fun {p r} hr => by
  rw [A (by rw [N (by omega)]; omega) (by rw [N (by omega)]; omega), N (by omega), N (by omega)]
 have L : (x.mulRaw y).lt (2 ^ 63) := by
  rw [hm]; unfold L5.lt; dsimp only
  rw [v0, v1, vA u1, vA u2, vA u3]; omega
 obtain ⟨n, v⟩ := L5.carried_spec L
 refine ⟨n, v.trans ?_⟩
 rw [hm]; unfold L5.fe; dsimp only
 rw [v0, v1, vA u1, vA u2, vA u3]
 exact key
end Go.Proofs.YtfjedhmffccgnaaGreatDoor.Ed
namespace Go.Proofs.YtfjedhmffccgnaaGreatDoor.Ed
def leN : List UInt8 → Nat
  | [] => 0
  | b :: l => b.toNat + 256 * leN l
def le (k n : Nat) : List UInt8 := (List.range k).map fun j => UInt8.ofNat (n / 256 ^ j)
theorem le_len (k n : Nat) : (le k n).length = k := by simp [le]
theorem le_succ (k n : Nat) : le (k + 1) n = UInt8.ofNat n :: le k (n / 256) := by
 unfold le
 rw [List.range_succ_eq_map, List.map_cons, List.map_map]
 congr 1
 · rw [Nat.pow_zero, Nat.div_one]
 ·
  refine List.map_congr_left fun j _ => ?_
  show UInt8.ofNat (n / 256 ^ (j + 1)) = _
  rw [Nat.pow_succ, Nat.mul_comm, Nat.div_div_eq_div_mul]
theorem leN_le : ∀ k n, leN (le k n) = n % 256 ^ k
 | 0, n => by rw [Nat.pow_zero, Nat.mod_one]; rfl
 | k + 1, n => by
  rw [le_succ]; show (UInt8.ofNat n).toNat + 256 * leN (le k (n / 256)) = _
  rw [leN_le k, UInt8.toNat_ofNat', show 256 ^ (k + 1) = 256 * 256 ^ k from by rw [Nat.pow_succ, Nat.mul_comm], Nat.mod_mul]
theorem leN_lt : ∀ l : List UInt8, leN l < 256 ^ l.length
 | [] => Nat.one_pos
 | b :: l => by
  have := leN_lt l; have := b.toNat_lt
  show b.toNat + 256 * leN l < 256 ^ (l.length + 1)
  rw [Nat.pow_succ]; omega
theorem le_leN : ∀ l : List UInt8, le l.length (leN l) = l
 | [] => rfl
 | b :: l => by
  have hb := b.toNat_lt
  show le (l.length + 1) (b.toNat + 256 * leN l) = _
  rw [le_succ, show (b.toNat + 256 * leN l) / 256 = leN l from by omega, le_leN l]
  congr 1
  apply UInt8.toNat.inj
  rw [UInt8.toNat_ofNat']; omega
theorem le_get {k n j : Nat} (h : j < k) : (le k n)[j]? = some (UInt8.ofNat (n / 256 ^ j)) := by
 unfold le; rw [List.getElem?_map, List.getElem?_range h]; rfl
theorem le_getD {k n j : Nat} (h : j < k) : (le k n).getD j 0 = UInt8.ofNat (n / 256 ^ j) := by
 rw [List.getD_eq_getElem?_getD, le_get h]; rfl
theorem p256 (j : Nat) : 256 ^ j = 2 ^ (8 * j) := by rw [Nat.pow_mul]
theorem bit_test (n i : Nat) : n / 2 ^ i % 2 = (n.testBit i).toNat := by
 rw [Nat.testBit_eq_decide_div_mod_eq]
 rcases Nat.mod_two_eq_zero_or_one (n / 2 ^ i) with h | h <;> rw [h] <;> rfl
theorem part_bit {n i j w : Nat} (hw : 0 < w) :
 n % 2 ^ (i + 1) / 2 ^ (w * j) % 2 ^ w = if j = i / w then (n % 2 ^ i / 2 ^ (w * j) % 2 ^ w) ||| (n / 2 ^ i % 2) <<< (i % w) else n % 2 ^ i / 2 ^ (w * j) % 2 ^ w := by
 have dm := Nat.div_add_mod i w
 have ml := Nat.mod_lt i hw
 apply Nat.eq_of_testBit_eq
 intro t
 have ea : ∀ m, (m / 2 ^ (w * j) % 2 ^ w).testBit t = (decide (t < w) && m.testBit (t + w * j)) := fun m => by
  rw [Nat.testBit_mod_two_pow, Nat.testBit_div_two_pow]
 split
 ·
  rename_i h; subst h
  rw [Nat.testBit_or, ea, ea, Nat.testBit_mod_two_pow, Nat.testBit_mod_two_pow, Nat.testBit_shiftLeft, bit_test, Nat.testBit_bool_toNat]
  by_cases c : t = i % w
  ·
   subst c
   rw [show i % w + w * (i / w) = i from by omega]
   simp [ml]
  ·
   have : t + w * (i / w) ≠ i := by omega
   have e1 : decide (t + w * (i / w) < i + 1) = decide (t + w * (i / w) < i) := by rw [decide_eq_decide]; omega
   have e2 : (decide (t ≥ i % w) && (decide (t - i % w = 0) && n.testBit i)) = false := by
    by_cases g : t ≥ i % w
    ·
     have : t - i % w ≠ 0 := by omega
     simp [this]
    · simp [g]
   rw [e1, e2, Bool.or_false]
 ·
  rename_i h
  rw [ea, ea, Nat.testBit_mod_two_pow, Nat.testBit_mod_two_pow]
  by_cases c : t < w
  ·
   have : t + w * j ≠ i := fun e => by
    apply h
    rw [← e, Nat.add_mul_div_left _ _ hw, Nat.div_eq_of_lt c, Nat.zero_add]
   have e1 : decide (t + w * j < i + 1) = decide (t + w * j < i) := by rw [decide_eq_decide]; omega
   rw [e1]
  · simp [c]
theorem le_bit {n i : Nat} (hi : i < 256) :
 (le 32 (n % 2 ^ i)).set (i / 8) (UInt8.ofBitVec (((le 32 (n % 2 ^ i)).getD (i / 8) 0).toBitVec ||| (BitVec.ofNat 8 (n / 2 ^ i % 2)) <<< (i % 8))) = le 32 (n % 2 ^ (i + 1)) := by
 apply List.ext_getElem?
 intro j
 rw [List.getElem?_set]
 by_cases hj : j < 32
 ·
  rw [le_get hj, le_get hj, le_len, le_getD (by omega)]
  have pb := part_bit (n := n) (i := i) (j := j) (w := 8) (by omega)
  rw [← p256] at pb
  by_cases c : i / 8 = j
  ·
   subst c
   rw [if_pos rfl, if_pos (by omega)]
   congr 1
   apply UInt8.toNat.inj
   rw [if_pos rfl] at pb
   rw [UInt8.toNat_ofNat']
   refine Eq.trans ?_ pb.symm
   show (_ ||| _ : BitVec 8).toNat = _
   rw [BitVec.toNat_or, BitVec.toNat_shiftLeft, BitVec.toNat_ofNat]
   have h1 : (UInt8.ofNat (n % 2 ^ i / 256 ^ (i / 8))).toBitVec.toNat = n % 2 ^ i / 256 ^ (i / 8) % 2 ^ 8 := UInt8.toNat_ofNat' ..
   rw [h1]
   have l2 : n / 2 ^ i % 2 < 2 := Nat.mod_lt _ (by omega)
   rw [Nat.mod_eq_of_lt (show n / 2 ^ i % 2 < 2 ^ 8 by omega), Nat.shiftLeft_eq, Nat.mod_eq_of_lt (a := n / 2 ^ i % 2 * 2 ^ (i % 8)) (b := 2 ^ 8)]
   have : 2 ^ (i % 8) ≤ 2 ^ 7 := Nat.pow_le_pow_right (by omega) (by omega)
   have : n / 2 ^ i % 2 * 2 ^ (i % 8) ≤ 1 * 2 ^ 7 := Nat.mul_le_mul (by omega) this
   omega
  ·
   rw [if_neg c]
   congr 1
   apply UInt8.toNat.inj
   rw [UInt8.toNat_ofNat', UInt8.toNat_ofNat']
   rw [if_neg (fun e => c e.symm)] at pb
   exact pb.symm
 · rw [List.getElem?_eq_none (by rw [le_len]; omega), if_neg (by omega), List.getElem?_eq_none (by rw [le_len]; omega)]
def limb (n j : Nat) : BitVec 64 := BitVec.ofNat 64 (n / 2 ^ (51 * j) % 2 ^ 51)
theorem limb_nat (n j : Nat) : (limb n j).toNat = n / 2 ^ (51 * j) % 2 ^ 51 := ofNat_nat (by have : n / 2 ^ (51 * j) % 2 ^ 51 < 2 ^ 51 := Nat.mod_lt _ (by decide); omega)
def limbs (n : Nat) : List (BitVec 64) := (List.range 5).map (limb n)
theorem limbs_get {n j : Nat} (h : j < 5) : (limbs n)[j]? = some (limb n j) := by unfold limbs; rw [List.getElem?_map, List.getElem?_range h]; rfl
theorem limbs_getD {n j : Nat} (h : j < 5) : (limbs n).getD j 0 = limb n j := by rw [List.getD_eq_getElem?_getD, limbs_get h]; rfl
def Lb (n : Nat) : L5 := ⟨limb n 0, limb n 1, limb n 2, limb n 3, limb n 4⟩
theorem limbs_bit {n i : Nat} (hi : i < 255) :
 (limbs (n % 2 ^ i)).set (i / 51) ((limbs (n % 2 ^ i)).getD (i / 51) 0 ||| (BitVec.ofNat 64 (n / 2 ^ i % 2)) <<< (i % 51)) = limbs (n % 2 ^ (i + 1)) := by
 apply List.ext_getElem?
 intro j
 rw [List.getElem?_set]
 by_cases hj : j < 5
 ·
  rw [limbs_get hj, limbs_get hj, show (limbs (n % 2 ^ i)).length = 5 from rfl, limbs_getD (by omega)]
  have pb := part_bit (n := n) (i := i) (j := j) (w := 51) (by omega)
  by_cases c : i / 51 = j
  ·
   subst c
   rw [if_pos rfl, if_pos (by omega)]
   congr 1
   apply BitVec.eq_of_toNat_eq
   rw [if_pos rfl] at pb
   rw [limb_nat, pb, BitVec.toNat_or, limb_nat, BitVec.toNat_shiftLeft, BitVec.toNat_ofNat]
   have l2 : n / 2 ^ i % 2 < 2 := Nat.mod_lt _ (by omega)
   rw [Nat.mod_eq_of_lt (show n / 2 ^ i % 2 < 2 ^ 64 by omega), Nat.shiftLeft_eq, Nat.mod_eq_of_lt (b := 2 ^ 64)]
   have : 2 ^ (i % 51) ≤ 2 ^ 50 := Nat.pow_le_pow_right (by omega) (by omega)
   have : n / 2 ^ i % 2 * 2 ^ (i % 51) ≤ 1 * 2 ^ 50 := Nat.mul_le_mul (by omega) this
   omega
  ·
   rw [if_neg c]
   congr 1
   apply BitVec.eq_of_toNat_eq
   rw [if_neg (fun e => c e.symm)] at pb
   rw [limb_nat, limb_nat, pb]
 · rw [List.getElem?_eq_none (by show 5 ≤ j; omega), if_neg (by omega), List.getElem?_eq_none (by show 5 ≤ j; omega)]
theorem limbs_zero (n : Nat) : limbs (n % 2 ^ 0) = List.replicate 5 0 := by rw [Nat.pow_zero, Nat.mod_one]; rfl
theorem Lb_norm (n : Nat) : (Lb n).norm := by
 unfold L5.norm Lb; dsimp only
 rw [limb_nat, limb_nat, limb_nat, limb_nat, limb_nat]; omega
theorem Lb_fe {n : Nat} (h : n < 2 ^ 255) : (Lb n).fe = fp n := by
 unfold L5.fe Lb; dsimp only
 rw [limb_nat, limb_nat, limb_nat, limb_nat, limb_nat, five_nat]
 congr 1; omega
theorem limb_bit {n i : Nat} : (limb n (i / 51) >>> (i % 51)).toNat % 2 = n / 2 ^ i % 2 := by
 rw [BitVec.toNat_ushiftRight, limb_nat, Nat.shiftRight_eq_div_pow, bit_test n]
 have ml := Nat.mod_lt i (show 51 > 0 by omega)
 have dm := Nat.div_add_mod i 51
 have := bit_test (n / 2 ^ (51 * (i / 51)) % 2 ^ 51) (i % 51)
 rw [this, Nat.testBit_mod_two_pow, Nat.testBit_div_two_pow, show i % 51 + 51 * (i / 51) = i from by omega]
 simp [ml]
theorem byte_bit {l : List UInt8} {i : Nat} (h : i / 8 < l.length) : ((l.getD (i / 8) 0).toBitVec >>> (i % 8)).toNat % 2 = leN l / 2 ^ i % 2 := by
 rw [BitVec.toNat_ushiftRight, Nat.shiftRight_eq_div_pow, bit_test (leN l)]
 have ml := Nat.mod_lt i (show 8 > 0 by omega)
 have dm := Nat.div_add_mod i 8
 conv => lhs; rw [← le_leN l, le_getD h]
 have h1 : (UInt8.ofNat (leN l / 256 ^ (i / 8))).toBitVec.toNat = leN l / 256 ^ (i / 8) % 2 ^ 8 := UInt8.toNat_ofNat' ..
 rw [h1, bit_test, p256, Nat.testBit_mod_two_pow, Nat.testBit_div_two_pow, show i % 8 + 8 * (i / 8) = i from by omega]
 simp [ml]
def L5.fin (y : L5) : L5 :=
  let p := (y.e + (y.d + (y.c + (y.b + (y.a + 19#64) >>> 51) >>> 51) >>> 51) >>> 51) >>> 51
  let a := y.a + 19#64 * p + 0#64
  let b := y.b + a >>> 51
  let c := y.c + b >>> 51
  let d := y.d + c >>> 51
  let e := y.e + d >>> 51
  ⟨a &&& M51, b &&& M51, c &&& M51, d &&& M51, e &&& M51⟩
def L5.nat (x : L5) : Nat := x.a.toNat + 2 ^ 51 * x.b.toNat + 2 ^ 102 * x.c.toNat + 2 ^ 153 * x.d.toNat + 2 ^ 204 * x.e.toNat
theorem L5.fe_nat (x : L5) : x.fe = fp x.nat := five_nat _ _ _ _ _
theorem L5.ext {x y : L5} (ha : x.a.toNat = y.a.toNat) (hb : x.b.toNat = y.b.toNat) (hc : x.c.toNat = y.c.toNat) (hd : x.d.toNat = y.d.toNat) (he : x.e.toNat = y.e.toNat) : x = y := by
 cases x; cases y
 have := BitVec.eq_of_toNat_eq ha; have := BitVec.eq_of_toNat_eq hb; have := BitVec.eq_of_toNat_eq hc; have := BitVec.eq_of_toNat_eq hd; have := BitVec.eq_of_toNat_eq he
 simp_all
theorem shra (x y : BitVec 64) (h : x.toNat + y.toNat / 2 ^ 51 < 2 ^ 64) : (x + y >>> 51).toNat = x.toNat + y.toNat / 2 ^ 51 := by rw [add_nat (by rw [shr51]; exact h), shr51]
theorem digits (a b c d e : Nat) :
 let b' := b + a / 2 ^ 51
 let c' := c + b' / 2 ^ 51
 let d' := d + c' / 2 ^ 51
 let e' := e + d' / 2 ^ 51
 let N := (a + 2 ^ 51 * b + 2 ^ 102 * c + 2 ^ 153 * d + 2 ^ 204 * e) % 2 ^ 255
 N / 2 ^ (51 * 0) % 2 ^ 51 = a % 2 ^ 51 ∧ N / 2 ^ (51 * 1) % 2 ^ 51 = b' % 2 ^ 51 ∧ N / 2 ^ (51 * 2) % 2 ^ 51 = c' % 2 ^ 51 ∧ N / 2 ^ (51 * 3) % 2 ^ 51 = d' % 2 ^ 51 ∧ N / 2 ^ (51 * 4) % 2 ^ 51 = e' % 2 ^ 51 := by
 intro b' c' d' e' N
 have hb : b' = b + a / 2 ^ 51 := rfl
 have hc : c' = c + b' / 2 ^ 51 := rfl
 have hd : d' = d + c' / 2 ^ 51 := rfl
 have he : e' = e + d' / 2 ^ 51 := rfl
 have hN : N = (a + 2 ^ 51 * b + 2 ^ 102 * c + 2 ^ 153 * d + 2 ^ 204 * e) % 2 ^ 255 := rfl
 clear_value b' c' d' e' N
 have m : ∀ M q : Nat, N = M % 2 ^ 255 → N / 2 ^ 51 = M / 2 ^ 51 % 2 ^ 204 ∧ N / 2 ^ 51 / 2 ^ 51 = M / 2 ^ 51 / 2 ^ 51 % 2 ^ 153 ∧ N / 2 ^ 51 / 2 ^ 51 / 2 ^ 51 = M / 2 ^ 51 / 2 ^ 51 / 2 ^ 51 % 2 ^ 102 ∧ N / 2 ^ 51 / 2 ^ 51 / 2 ^ 51 / 2 ^ 51 = M / 2 ^ 51 / 2 ^ 51 / 2 ^ 51 / 2 ^ 51 % 2 ^ 51 := fun M q h => by
  subst h
  have d1 : ∀ (X a b : Nat), X % (2 ^ a * 2 ^ b) / 2 ^ a = X / 2 ^ a % 2 ^ b := fun X a b => Nat.mod_mul_right_div_self X (2 ^ a) (2 ^ b)
  have e1 : M % 2 ^ 255 / 2 ^ 51 = M / 2 ^ 51 % 2 ^ 204 := d1 M 51 204
  have e2 : M / 2 ^ 51 % 2 ^ 204 / 2 ^ 51 = M / 2 ^ 51 / 2 ^ 51 % 2 ^ 153 := d1 (M / 2 ^ 51) 51 153
  have e3 : M / 2 ^ 51 / 2 ^ 51 % 2 ^ 153 / 2 ^ 51 = M / 2 ^ 51 / 2 ^ 51 / 2 ^ 51 % 2 ^ 102 := d1 (M / 2 ^ 51 / 2 ^ 51) 51 102
  have e4 : M / 2 ^ 51 / 2 ^ 51 / 2 ^ 51 % 2 ^ 102 / 2 ^ 51 = M / 2 ^ 51 / 2 ^ 51 / 2 ^ 51 / 2 ^ 51 % 2 ^ 51 := d1 (M / 2 ^ 51 / 2 ^ 51 / 2 ^ 51) 51 51
  exact ⟨e1, by rw [e1, e2], by rw [e1, e2, e3], by rw [e1, e2, e3, e4]⟩
 obtain ⟨m1, m2, m3, m4⟩ := m _ 0 hN
 have s1 : (a + 2 ^ 51 * b + 2 ^ 102 * c + 2 ^ 153 * d + 2 ^ 204 * e) / 2 ^ 51 = b' + 2 ^ 51 * c + 2 ^ 102 * d + 2 ^ 153 * e := by omega
 have s2 : (b' + 2 ^ 51 * c + 2 ^ 102 * d + 2 ^ 153 * e) / 2 ^ 51 = c' + 2 ^ 51 * d + 2 ^ 102 * e := by omega
 have s3 : (c' + 2 ^ 51 * d + 2 ^ 102 * e) / 2 ^ 51 = d' + 2 ^ 51 * e := by omega
 have s4 : (d' + 2 ^ 51 * e) / 2 ^ 51 = e' := by omega
 rw [s1] at m1 m2 m3 m4; rw [s2] at m2 m3 m4; rw [s3] at m3 m4; rw [s4] at m4
 have q2 : N / 2 ^ (51 * 2) = N / 2 ^ 51 / 2 ^ 51 := by rw [Nat.div_div_eq_div_mul]
 have q3 : N / 2 ^ (51 * 3) = N / 2 ^ 51 / 2 ^ 51 / 2 ^ 51 := by rw [Nat.div_div_eq_div_mul, Nat.div_div_eq_div_mul]
 have q4 : N / 2 ^ (51 * 4) = N / 2 ^ 51 / 2 ^ 51 / 2 ^ 51 / 2 ^ 51 := by rw [Nat.div_div_eq_div_mul, Nat.div_div_eq_div_mul, Nat.div_div_eq_div_mul]
 refine ⟨?_, ?_, ?_, ?_, ?_⟩
 · rw [show N / 2 ^ (51 * 0) = N from Nat.div_one N, hN]; omega
 · rw [show N / 2 ^ (51 * 1) = N / 2 ^ 51 from rfl, m1]; omega
 · rw [q2, m2]; omega
 · rw [q3, m3]; omega
 · rw [q4, m4]; omega
theorem L5.fin_spec {y : L5} (h : y.lt (2 ^ 51)) : y.fin = Lb y.fe.val := by
 obtain ⟨a, b, c, d, e⟩ := h
 have hv : y.fe.val = y.nat % P := by rw [L5.fe_nat, val_fp]
 have q1 : (y.a + 19#64).toNat = y.a.toNat + 19 := add_nat (by show _ + 19 < _; omega)
 have q2 := shra y.b (y.a + 19#64) (by rw [q1]; omega)
 have q3 := shra y.c (y.b + (y.a + 19#64) >>> 51) (by rw [q2]; omega)
 have q4 := shra y.d (y.c + (y.b + (y.a + 19#64) >>> 51) >>> 51) (by rw [q3]; omega)
 have q5 := shra y.e (y.d + (y.c + (y.b + (y.a + 19#64) >>> 51) >>> 51) >>> 51) (by rw [q4]; omega)
 have q6 := shr51 (y.e + (y.d + (y.c + (y.b + (y.a + 19#64) >>> 51) >>> 51) >>> 51) >>> 51)
 rw [q5, q4, q3, q2, q1] at q6
 rw [hv]
 unfold L5.fin
 dsimp only
 generalize (y.e + (y.d + (y.c + (y.b + (y.a + 19#64) >>> 51) >>> 51) >>> 51) >>> 51) >>> 51 = p at *
 clear q1 q2 q3 q4 q5
 have hp : p.toNat = (y.nat + 19) / 2 ^ 255 := by rw [q6]; unfold L5.nat; omega
 have hn : y.nat < 2 ^ 255 := by unfold L5.nat; omega
 have hp1 : p.toNat ≤ 1 := by omega
 have hP : P = 2 ^ 255 - 19 := rfl
 have hm : y.nat % P = (y.nat + 19 * p.toNat) % 2 ^ 255 := by
  rcases Nat.lt_or_ge y.nat P with l | l
  · rw [Nat.mod_eq_of_lt l, show p.toNat = 0 from by omega, Nat.mod_eq_of_lt (by omega)]; rfl
  · rw [Nat.mod_eq_sub_mod l, Nat.mod_eq_of_lt (by omega), show p.toNat = 1 from by omega]; omega
 have a0 : (y.a + 19#64 * p + 0#64).toNat = y.a.toNat + 19 * p.toNat := by
  have : (19#64 * p).toNat = 19 * p.toNat := mul_nat (by show 19 * _ < _; omega)
  rw [BitVec.add_zero, add_nat (by rw [this]; omega), this]
 have a1 := shra y.b (y.a + 19#64 * p + 0#64) (by rw [a0]; omega)
 have a2 := shra y.c (y.b + (y.a + 19#64 * p + 0#64) >>> 51) (by rw [a1]; omega)
 have a3 := shra y.d (y.c + (y.b + (y.a + 19#64 * p + 0#64) >>> 51) >>> 51) (by rw [a2]; omega)
 have a4 := shra y.e (y.d + (y.c + (y.b + (y.a + 19#64 * p + 0#64) >>> 51) >>> 51) >>> 51) (by rw [a3]; omega)
 rw [a0] at a1; rw [a1] at a2; rw [a2] at a3; rw [a3] at a4
 rw [hm]
 have dg := digits (y.a.toNat + 19 * p.toNat) y.b.toNat y.c.toNat y.d.toNat y.e.toNat
 rw [show y.a.toNat + 19 * p.toNat + 2 ^ 51 * y.b.toNat + 2 ^ 102 * y.c.toNat + 2 ^ 153 * y.d.toNat + 2 ^ 204 * y.e.toNat = y.nat + 19 * p.toNat from by unfold L5.nat; omega] at dg
 obtain ⟨g0, g1, g2, g3, g4⟩ := dg
 refine L5.ext ?_ ?_ ?_ ?_ ?_
 · show (_ &&& M51).toNat = (limb _ 0).toNat; rw [and_mask, limb_nat, a0, g0]
 · show (_ &&& M51).toNat = (limb _ 1).toNat; rw [and_mask, limb_nat, a1, g1]
 · show (_ &&& M51).toNat = (limb _ 2).toNat; rw [and_mask, limb_nat, a2, g2]
 · show (_ &&& M51).toNat = (limb _ 3).toNat; rw [and_mask, limb_nat, a3, g3]
 · show (_ &&& M51).toNat = (limb _ 4).toNat; rw [and_mask, limb_nat, a4, g4]
theorem L5.carried_lt {x : L5} (h : x.norm) : x.carried.lt (2 ^ 51) := by
 obtain ⟨ha, hb, hc, hd, he⟩ := h
 have e0 : (x.a + 0#64).toNat = x.a.toNat := by rw [BitVec.add_zero]
 have e1 := shra x.b (x.a + 0#64) (by rw [e0]; omega)
 have e2 := shra x.c (x.b + (x.a + 0#64) >>> 51) (by rw [e1]; omega)
 have e3 := shra x.d (x.c + (x.b + (x.a + 0#64) >>> 51) >>> 51) (by rw [e2]; omega)
 have e4 := shra x.e (x.d + (x.c + (x.b + (x.a + 0#64) >>> 51) >>> 51) >>> 51) (by rw [e3]; omega)
 rw [e0] at e1; rw [e1] at e2; rw [e2] at e3; rw [e3] at e4
 have m19 : ∀ y : BitVec 64, (19#64 * y >>> 51).toNat = 19 * (y.toNat / 2 ^ 51) := fun y => by rw [mul_nat (by rw [shr51]; show 19 * _ < _; have := y.isLt; omega), shr51]; rfl
 unfold L5.lt L5.carried
 dsimp only
 rw [add_nat (by rw [and_mask, m19, e4, e0]; omega), and_mask, and_mask, and_mask, and_mask, and_mask, m19, e0, e1, e2, e3, e4]
 omega
theorem L5.bytes_spec {x : L5} (h : x.norm) : x.carried.carried.fin = Lb x.fe.val := by
 have h1 := L5.carried_spec (x := x) (by unfold L5.norm at h; unfold L5.lt; omega)
 have h2 := L5.carried_spec (x := x.carried) (by have := h1.1; unfold L5.norm at this; unfold L5.lt; omega)
 rw [L5.fin_spec (L5.carried_lt h1.1), h2.2, h1.2]
end Go.Proofs.YtfjedhmffccgnaaGreatDoor.Ed
