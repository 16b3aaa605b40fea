/- The sums SHA-256 and SHA-512 as plain functions; that another way of reckoning them (numbers of 64 bits, turned by division) comes to the same. No program in sight. -/
import Derived.Test.YtmolpgnekcfimaaCore
namespace Go.Proofs.Ytmolpgnekcfimaa.S.Sh

/-- Turned to the right. -/
def rotr {w : Nat} (x : BitVec w) (n : Nat) : BitVec w := (x <<< (w - n)) ||| (x >>> n)
structure R8 (w : Nat) where
  a : BitVec w
  b : BitVec w
  c : BitVec w
  d : BitVec w
  e : BitVec w
  f : BitVec w
  g : BitVec w
  h : BitVec w
/-- What tells one of the sums from the other. -/
structure Sp (w : Nat) where
  t0 : Nat
  t1 : Nat
  t2 : Nat
  t3 : Nat
  t4 : Nat
  t5 : Nat
  t6 : Nat
  t7 : Nat
  t8 : Nat
  t9 : Nat
  t10 : Nat
  t11 : Nat
  rounds : Nat
  ks : Nat → BitVec w
  init : R8 w
section
variable {w : Nat} (T : Sp w)
def low (x : BitVec w) : BitVec w := rotr x T.t0 ^^^ rotr x T.t1 ^^^ (x >>> T.t2)
def high (y : BitVec w) : BitVec w := rotr y T.t3 ^^^ rotr y T.t4 ^^^ (y >>> T.t5)
def nextW (ws : List (BitVec w)) : BitVec w :=
  ws.getD (ws.length - 16) 0 + ws.getD (ws.length - 7) 0 + low T (ws.getD (ws.length - 15) 0) + high T (ws.getD (ws.length - 2) 0)
def sched (m : List (BitVec w)) : Nat → List (BitVec w)
  | 0 => m
  | n + 1 => sched m n ++ [nextW T (sched m n)]
def rnd (s : R8 w) (k wi : BitVec w) : R8 w :=
  let t := s.h + (rotr s.e T.t9 ^^^ rotr s.e T.t10 ^^^ rotr s.e T.t11) + ((s.e &&& s.f) ^^^ (~~~s.e &&& s.g)) + k + wi
  let u := (rotr s.a T.t6 ^^^ rotr s.a T.t7 ^^^ rotr s.a T.t8) + ((s.a &&& s.b) ^^^ (s.a &&& s.c) ^^^ (s.b &&& s.c))
  ⟨t + u, s.a, s.b, s.c, s.d + t, s.e, s.f, s.g⟩
def rnds (ws : List (BitVec w)) (s : R8 w) : Nat → R8 w
  | 0 => s
  | i + 1 => rnd T (rnds ws s i) (T.ks i) (ws.getD i 0)
def addR (s t : R8 w) : R8 w := ⟨s.a + t.a, s.b + t.b, s.c + t.c, s.d + t.d, s.e + t.e, s.f + t.f, s.g + t.g, s.h + t.h⟩
/-- One word of some bytes, the first first. -/
def word (w : Nat) (l : List UInt8) : BitVec w := l.foldl (fun x c => (x <<< 8) ||| c.toBitVec.setWidth w) 0
def words (w : Nat) (b : List UInt8) : List (BitVec w) := (List.range 16).map fun i => word w ((b.drop (w / 8 * i)).take (w / 8))
def blockS (s : R8 w) (b : List UInt8) : R8 w := addR s (rnds T (sched T (words w b) (T.rounds - 16)) s T.rounds)
def absorbF (T : Sp w) : Nat → R8 w → List UInt8 → R8 w × List UInt8
  | 0, s, l => (s, l)
  | f + 1, s, l => if l.length < 2 * w then (s, l) else absorbF T f (blockS T s (l.take (2 * w))) (l.drop (2 * w))
/-- Bytes are taken in: the state then, and what is left. -/
def absorb (s : R8 w) (l : List UInt8) : R8 w × List UInt8 := absorbF T l.length s l
def beBytes (k n : Nat) : List UInt8 := (List.range k).map fun i => UInt8.ofNat (n / 256 ^ (k - 1 - i))
/-- What ends n bytes. -/
def pad (w n : Nat) : List UInt8 := 128 :: (List.replicate ((2 * w - (n + 1 + w / 4) % (2 * w)) % (2 * w)) 0 ++ beBytes (w / 4) (8 * n))
def outB (s : R8 w) : List UInt8 := [s.a, s.b, s.c, s.d, s.e, s.f, s.g, s.h].flatMap fun x => beBytes (w / 8) x.toNat
/-- The sum. -/
def sha (l : List UInt8) : List UInt8 := outB (absorb T T.init (l ++ pad w l.length)).1
end
def table : List (BitVec 64) := [
  0x428a2f98d728ae22, 0x7137449123ef65cd, 0xb5c0fbcfec4d3b2f, 0xe9b5dba58189dbbc,
  0x3956c25bf348b538, 0x59f111f1b605d019, 0x923f82a4af194f9b, 0xab1c5ed5da6d8118,
  0xd807aa98a3030242, 0x12835b0145706fbe, 0x243185be4ee4b28c, 0x550c7dc3d5ffb4e2,
  0x72be5d74f27b896f, 0x80deb1fe3b1696b1, 0x9bdc06a725c71235, 0xc19bf174cf692694,
  0xe49b69c19ef14ad2, 0xefbe4786384f25e3, 0x0fc19dc68b8cd5b5, 0x240ca1cc77ac9c65,
  0x2de92c6f592b0275, 0x4a7484aa6ea6e483, 0x5cb0a9dcbd41fbd4, 0x76f988da831153b5,
  0x983e5152ee66dfab, 0xa831c66d2db43210, 0xb00327c898fb213f, 0xbf597fc7beef0ee4,
  0xc6e00bf33da88fc2, 0xd5a79147930aa725, 0x06ca6351e003826f, 0x142929670a0e6e70,
  0x27b70a8546d22ffc, 0x2e1b21385c26c926, 0x4d2c6dfc5ac42aed, 0x53380d139d95b3df,
  0x650a73548baf63de, 0x766a0abb3c77b2a8, 0x81c2c92e47edaee6, 0x92722c851482353b,
  0xa2bfe8a14cf10364, 0xa81a664bbc423001, 0xc24b8b70d0f89791, 0xc76c51a30654be30,
  0xd192e819d6ef5218, 0xd69906245565a910, 0xf40e35855771202a, 0x106aa07032bbd1b8,
  0x19a4c116b8d2d0c8, 0x1e376c085141ab53, 0x2748774cdf8eeb99, 0x34b0bcb5e19b48a8,
  0x391c0cb3c5c95a63, 0x4ed8aa4ae3418acb, 0x5b9cca4f7763e373, 0x682e6ff3d6b2b8a3,
  0x748f82ee5defb2fc, 0x78a5636f43172f60, 0x84c87814a1f0ab72, 0x8cc702081a6439ec,
  0x90befffa23631e28, 0xa4506cebde82bde9, 0xbef9a3f7b2c67915, 0xc67178f2e372532b,
  0xca273eceea26619c, 0xd186b8c721c0c207, 0xeada7dd6cde0eb1e, 0xf57d4f7fee6ed178,
  0x06f067aa72176fba, 0x0a637dc5a2c898a6, 0x113f9804bef90dae, 0x1b710b35131c471b,
  0x28db77f523047d84, 0x32caab7b40c72493, 0x3c9ebe0a15c9bebc, 0x431d67c49c100d4c,
  0x4cc5d4becb3e42b6, 0x597f299cfc657e2a, 0x5fcb6fab3ad6faec, 0x6c44198c4a475817]
def T512 : Sp 64 := ⟨1, 8, 7, 19, 61, 6, 28, 34, 39, 14, 18, 41, 80, fun i => table.getD i 0, ⟨0x6a09e667f3bcc908, 0xbb67ae8584caa73b, 0x3c6ef372fe94f82b, 0xa54ff53a5f1d36f1, 0x510e527fade682d1, 0x9b05688c2b3e6c1f, 0x1f83d9abfb41bd6b, 0x5be0cd19137e2179⟩⟩
def T256 : Sp 32 := ⟨7, 18, 3, 17, 19, 10, 2, 13, 22, 6, 11, 25, 64, fun i => ((table.getD i 0) >>> 32).setWidth 32, ⟨0x6a09e667, 0xbb67ae85, 0x3c6ef372, 0xa54ff53a, 0x510e527f, 0x9b05688c, 0x1f83d9ab, 0x5be0cd19⟩⟩
/-! ### Taking in -/
section
variable {w : Nat} (T : Sp w)
theorem absorbF_more (hw : 0 < w) : ∀ (f g : Nat) (s : R8 w) (l : List UInt8), l.length ≤ f → l.length ≤ g → absorbF T f s l = absorbF T g s l
  | 0, 0, _, _, _, _ => rfl
  | 0, g + 1, s, l, h, _ => by
    unfold absorbF
    rw [if_pos (by omega)]
  | f + 1, 0, s, l, _, h => by
    unfold absorbF
    rw [if_pos (by omega)]
  | f + 1, g + 1, s, l, h1, h2 => by
    unfold absorbF
    split
    · rfl
    · exact absorbF_more hw f g _ _ (by rw [List.length_drop]; omega) (by rw [List.length_drop]; omega)
theorem absorb_small {s : R8 w} {l : List UInt8} (h : l.length < 2 * w) : absorb T s l = (s, l) := by
  unfold absorb
  cases hl : l.length with
  | zero => rfl
  | succ n => unfold absorbF; rw [if_pos h]
theorem absorb_block (hw : 0 < w) {s : R8 w} {l : List UInt8} (h : 2 * w ≤ l.length) : absorb T s l = absorb T (blockS T s (l.take (2 * w))) (l.drop (2 * w)) := by
  unfold absorb
  obtain ⟨n, hn⟩ : ∃ n, l.length = n + 1 := ⟨l.length - 1, by omega⟩
  rw [hn]
  conv => lhs; unfold absorbF
  rw [if_neg (by omega)]
  exact absorbF_more T hw _ _ _ _ (by rw [List.length_drop]; omega) (Nat.le_refl _)
theorem absorb_append (hw : 0 < w) : ∀ (n : Nat) (s : R8 w) (l m : List UInt8), l.length ≤ n → absorb T s (l ++ m) = absorb T (absorb T s l).1 ((absorb T s l).2 ++ m)
  | n, s, l, m, h => by
    by_cases hl : l.length < 2 * w
    · rw [absorb_small T hl]
    · cases n with
      | zero => omega
      | succ n =>
        rw [absorb_block T hw (by rw [List.length_append]; omega : 2 * w ≤ (l ++ m).length), absorb_block T hw (by omega : 2 * w ≤ l.length),
          List.take_append_of_le_length (by omega), List.drop_append_of_le_length (by omega)]
        exact absorb_append hw n _ _ _ (by rw [List.length_drop]; omega)
theorem absorb_rest (hw : 0 < w) : ∀ (n : Nat) (s : R8 w) (l : List UInt8), l.length ≤ n → (absorb T s l).2.length < 2 * w ∧ (absorb T s l).2.length = l.length % (2 * w)
  | n, s, l, h => by
    by_cases hl : l.length < 2 * w
    · rw [absorb_small T hl]; exact ⟨hl, (Nat.mod_eq_of_lt hl).symm⟩
    · cases n with
      | zero => omega
      | succ n =>
        rw [absorb_block T hw (by omega)]
        have := absorb_rest hw n (blockS T s (l.take (2 * w))) (l.drop (2 * w)) (by rw [List.length_drop]; omega)
        rw [List.length_drop] at this
        refine ⟨this.1, this.2.trans ?_⟩
        rw [Nat.mod_eq_sub_mod (by omega : 2 * w ≤ l.length)]
end

/-! ### The other way -/
def pw (n : Nat) : BitVec 64 := BitVec.ofNat 64 (2 ^ n)
def turnR (W : Nat) (x : BitVec 64) (n : Nat) : BitVec 64 := if W = 64 then x / pw n + x * pw (64 - n) else x / pw n + x % pw n * pw (W - n)
def keepR (W : Nat) (x : BitVec 64) : BitVec 64 := if W = 64 then x else x % pw W
section
variable {W : Nat}
/-- The same number. -/
def Up (X : BitVec 64) (x : BitVec W) : Prop := X.toNat = x.toNat
/-- The same number but for what lies above. -/
def Md (X : BitVec 64) (x : BitVec W) : Prop := X.toNat % 2 ^ W = x.toNat
theorem Up.md {X : BitVec 64} {x : BitVec W} (h : Up X x) : Md X x := by unfold Md; rw [h]; exact Nat.mod_eq_of_lt x.isLt
theorem pw_nat {n : Nat} (h : n < 64) : (pw n).toNat = 2 ^ n := by
  unfold pw
  rw [BitVec.toNat_ofNat]
  exact Nat.mod_eq_of_lt (Nat.pow_lt_pow_right (by omega) h)
theorem mod64 (hW : W ≤ 64) (n : Nat) : n % 2 ^ 64 % 2 ^ W = n % 2 ^ W := Nat.mod_mod_of_dvd n (Nat.pow_dvd_pow 2 hW)
theorem Md.add (hW : W ≤ 64) {X Y : BitVec 64} {x y : BitVec W} (h : Md X x) (g : Md Y y) : Md (X + Y) (x + y) := by
  unfold Md at *
  rw [BitVec.toNat_add, BitVec.toNat_add, mod64 hW, ← h, ← g, ← Nat.add_mod]
theorem Md.keep (hW : W ≤ 64) {X : BitVec 64} {x : BitVec W} (h : Md X x) : Up (keepR W X) x := by
  unfold keepR Up
  split
  · rename_i h64
    subst h64
    rw [← h, Nat.mod_eq_of_lt X.isLt]
  · rw [BitVec.toNat_umod, pw_nat (by omega)]; exact h
theorem Up.xor {X Y : BitVec 64} {x y : BitVec W} (h : Up X x) (g : Up Y y) : Up (X ^^^ Y) (x ^^^ y) := by
  unfold Up at *
  rw [BitVec.toNat_xor, BitVec.toNat_xor, h, g]
theorem Up.and {X Y : BitVec 64} {x y : BitVec W} (h : Up X x) (g : Up Y y) : Up (X &&& Y) (x &&& y) := by
  unfold Up at *
  rw [BitVec.toNat_and, BitVec.toNat_and, h, g]
theorem Up.or {X Y : BitVec 64} {x y : BitVec W} (h : Up X x) (g : Up Y y) : Up (X ||| Y) (x ||| y) := by
  unfold Up at *
  rw [BitVec.toNat_or, BitVec.toNat_or, h, g]
theorem Up.shr {X : BitVec 64} {x : BitVec W} (h : Up X x) {n : Nat} (hn : n < 64) : Up (X / pw n) (x >>> n) := by
  unfold Up at *
  rw [BitVec.toNat_udiv, BitVec.toNat_ushiftRight, pw_nat hn, h, Nat.shiftRight_eq_div_pow]
theorem rotr_nat {x : BitVec W} {n : Nat} (hn : n < W) : (rotr x n).toNat = x.toNat / 2 ^ n + x.toNat % 2 ^ n * 2 ^ (W - n) := by
  unfold rotr
  have hx := x.isLt
  have hsplit : (2 : Nat) ^ W = 2 ^ n * 2 ^ (W - n) := by rw [← Nat.pow_add]; congr 1; omega
  rw [BitVec.toNat_or, BitVec.toNat_shiftLeft, BitVec.toNat_ushiftRight, Nat.shiftRight_eq_div_pow, Nat.shiftLeft_eq, hsplit, Nat.mul_mod_mul_right, ← Nat.shiftLeft_eq (x.toNat % 2 ^ n),
    ← Nat.shiftLeft_add_eq_or_of_lt (by rw [Nat.div_lt_iff_lt_mul (Nat.two_pow_pos n), Nat.mul_comm, ← hsplit]; exact hx), Nat.shiftLeft_eq, Nat.add_comm]
theorem Up.turn (hW : W ≤ 64) {X : BitVec 64} {x : BitVec W} (h : Up X x) {n : Nat} (h0 : 0 < n) (hn : n < W) : Up (turnR W X n) (rotr x n) := by
  have hx := x.isLt
  have hlt := (rotr x n).isLt
  have hle : (2 : Nat) ^ W ≤ 2 ^ 64 := Nat.pow_le_pow_right (by omega) hW
  have hr := rotr_nat (x := x) hn
  unfold Up at *
  unfold turnR
  split
  · rename_i h64
    subst h64
    have hsplit : (2 : Nat) ^ 64 = 2 ^ n * 2 ^ (64 - n) := by rw [← Nat.pow_add]; congr 1; omega
    rw [BitVec.toNat_add, BitVec.toNat_mul, BitVec.toNat_udiv, pw_nat hn, pw_nat (by omega), h]
    rw [show x.toNat * 2 ^ (64 - n) % 2 ^ 64 = x.toNat % 2 ^ n * 2 ^ (64 - n) from by conv => lhs; rw [hsplit, Nat.mul_mod_mul_right]]
    rw [← hr]; exact Nat.mod_eq_of_lt hlt
  · rw [BitVec.toNat_add, BitVec.toNat_mul, BitVec.toNat_udiv, BitVec.toNat_umod, pw_nat (by omega), pw_nat (by omega), h]
    rw [Nat.mod_eq_of_lt (show x.toNat % 2 ^ n * 2 ^ (W - n) < 2 ^ 64 from Nat.lt_of_le_of_lt (Nat.le_add_left _ (x.toNat / 2 ^ n)) (by rw [← hr]; omega)), ← hr]; exact Nat.mod_eq_of_lt (by omega)
theorem Up.not (hW : W ≤ 64) {X : BitVec 64} {x : BitVec W} (h : Up X x) : Md (18446744073709551615#64 - X) (~~~x) := by
  have hx := x.isLt
  have hle : (2 : Nat) ^ W ≤ 2 ^ 64 := Nat.pow_le_pow_right (by omega) hW
  have hX := X.isLt
  unfold Up at h
  unfold Md
  rw [BitVec.toNat_sub, BitVec.toNat_not, mod64 hW, BitVec.toNat_ofNat, h]
  have hd : (2 : Nat) ^ 64 = 2 ^ W * 2 ^ (64 - W) := by rw [← Nat.pow_add]; congr 1; omega
  have hp : 0 < (2 : Nat) ^ (64 - W) := Nat.two_pow_pos _
  rw [show 2 ^ 64 - x.toNat + 18446744073709551615 % 2 ^ 64 = (2 ^ W - 1 - x.toNat) + 2 ^ W * (2 * 2 ^ (64 - W) - 1) from by
    rw [Nat.mul_sub, Nat.mul_one, show 2 ^ W * (2 * 2 ^ (64 - W)) = 2 * 2 ^ 64 from by rw [hd]; ac_rfl]
    omega]
  rw [Nat.add_mul_mod_self_left]
  exact Nat.mod_eq_of_lt (by omega)
theorem choose_eq (x y z : BitVec W) : (x &&& y) ||| (~~~x &&& z) = (x &&& y) ^^^ (~~~x &&& z) := by
  ext i hi
  simp only [BitVec.getElem_or, BitVec.getElem_and, BitVec.getElem_xor, BitVec.getElem_not]
  cases x[i] <;> cases y[i] <;> cases z[i] <;> rfl
theorem most_eq (x y z : BitVec W) : (x &&& y) ||| (x &&& z) ||| (y &&& z) = (x &&& y) ^^^ (x &&& z) ^^^ (y &&& z) := by
  ext i hi
  simp only [BitVec.getElem_or, BitVec.getElem_and, BitVec.getElem_xor]
  cases x[i] <;> cases y[i] <;> cases z[i] <;> rfl
end
/-- The turns are turns. -/
structure Sp.Ok {w : Nat} (T : Sp w) : Prop where
  hw : w ≤ 64
  hw0 : 0 < w
  h0 : 0 < T.t0 ∧ T.t0 < w
  h1 : 0 < T.t1 ∧ T.t1 < w
  h2 : T.t2 < 64
  h3 : 0 < T.t3 ∧ T.t3 < w
  h4 : 0 < T.t4 ∧ T.t4 < w
  h5 : T.t5 < 64
  h6 : 0 < T.t6 ∧ T.t6 < w
  h7 : 0 < T.t7 ∧ T.t7 < w
  h8 : 0 < T.t8 ∧ T.t8 < w
  h9 : 0 < T.t9 ∧ T.t9 < w
  h10 : 0 < T.t10 ∧ T.t10 < w
  h11 : 0 < T.t11 ∧ T.t11 < w
theorem ok256 : T256.Ok := by constructor <;> decide
theorem ok512 : T512.Ok := by constructor <;> decide

section
variable {w : Nat} (T : Sp w)
def lowR (x : BitVec 64) : BitVec 64 := turnR w x T.t0 ^^^ turnR w x T.t1 ^^^ (x / pw T.t2)
def highR (y : BitVec 64) : BitVec 64 := turnR w y T.t3 ^^^ turnR w y T.t4 ^^^ (y / pw T.t5)
def nextR (a b c d : BitVec 64) : BitVec 64 := keepR w (a + lowR T b + c + highR T d)
def rndR (s : R8 64) (k wi : BitVec 64) : R8 64 :=
  let choose := (s.e &&& s.f) ||| (keepR w (18446744073709551615#64 - s.e) &&& s.g)
  let most := (s.a &&& s.b) ||| (s.a &&& s.c) ||| (s.b &&& s.c)
  let one := s.h + (turnR w s.e T.t9 ^^^ turnR w s.e T.t10 ^^^ turnR w s.e T.t11) + choose + k + wi
  let two := (turnR w s.a T.t6 ^^^ turnR w s.a T.t7 ^^^ turnR w s.a T.t8) + most
  ⟨keepR w (one + two), s.a, s.b, s.c, keepR w (s.d + one), s.e, s.f, s.g⟩
structure UpR (S : R8 64) (s : R8 w) : Prop where
  a : Up S.a s.a
  b : Up S.b s.b
  c : Up S.c s.c
  d : Up S.d s.d
  e : Up S.e s.e
  f : Up S.f s.f
  g : Up S.g s.g
  h : Up S.h s.h
variable {T}
theorem Up.low (ok : T.Ok) {X : BitVec 64} {x : BitVec w} (h : Up X x) : Up (lowR T X) (low T x) := ((h.turn ok.hw ok.h0.1 ok.h0.2).xor (h.turn ok.hw ok.h1.1 ok.h1.2)).xor (h.shr ok.h2)
theorem Up.high (ok : T.Ok) {X : BitVec 64} {x : BitVec w} (h : Up X x) : Up (highR T X) (high T x) := ((h.turn ok.hw ok.h3.1 ok.h3.2).xor (h.turn ok.hw ok.h4.1 ok.h4.2)).xor (h.shr ok.h5)
theorem Up.next (ok : T.Ok) {A B C D : BitVec 64} {a b c d : BitVec w} (ha : Up A a) (hb : Up B b) (hc : Up C c) (hd : Up D d) : Up (nextR T A B C D) (a + c + Sh.low T b + Sh.high T d) := by
  have : a + c + Sh.low T b + Sh.high T d = a + Sh.low T b + c + Sh.high T d := by ac_rfl
  rw [this]
  exact ((((ha.md.add ok.hw (hb.low ok).md).add ok.hw hc.md).add ok.hw (hd.high ok).md)).keep ok.hw
theorem UpR.rnd (ok : T.Ok) {S : R8 64} {s : R8 w} (H : UpR S s) {K X : BitVec 64} {k x : BitVec w} (hk : Up K k) (hx : Up X x) : UpR (rndR T S K X) (Sh.rnd T s k x) := by
  have one : Md (S.h + (turnR w S.e T.t9 ^^^ turnR w S.e T.t10 ^^^ turnR w S.e T.t11) + ((S.e &&& S.f) ||| (keepR w (18446744073709551615#64 - S.e) &&& S.g)) + K + X) (s.h + (rotr s.e T.t9 ^^^ rotr s.e T.t10 ^^^ rotr s.e T.t11) + ((s.e &&& s.f) ^^^ (~~~s.e &&& s.g)) + k + x) := by
    rw [← choose_eq]
    exact ((((H.h.md.add ok.hw (((H.e.turn ok.hw ok.h9.1 ok.h9.2).xor (H.e.turn ok.hw ok.h10.1 ok.h10.2)).xor (H.e.turn ok.hw ok.h11.1 ok.h11.2)).md).add ok.hw ((H.e.and H.f).or (((H.e.not ok.hw).keep ok.hw).and H.g)).md).add ok.hw hk.md).add ok.hw hx.md)
  have two : Md ((turnR w S.a T.t6 ^^^ turnR w S.a T.t7 ^^^ turnR w S.a T.t8) + ((S.a &&& S.b) ||| (S.a &&& S.c) ||| (S.b &&& S.c))) ((rotr s.a T.t6 ^^^ rotr s.a T.t7 ^^^ rotr s.a T.t8) + ((s.a &&& s.b) ^^^ (s.a &&& s.c) ^^^ (s.b &&& s.c))) := by
    rw [← most_eq]
    exact (((H.a.turn ok.hw ok.h6.1 ok.h6.2).xor (H.a.turn ok.hw ok.h7.1 ok.h7.2)).xor (H.a.turn ok.hw ok.h8.1 ok.h8.2)).md.add ok.hw (((H.a.and H.b).or (H.a.and H.c)).or (H.b.and H.c)).md
  exact ⟨(one.add ok.hw two).keep ok.hw, H.a, H.b, H.c, (H.d.md.add ok.hw one).keep ok.hw, H.e, H.f, H.g⟩
end
end Go.Proofs.Ytmolpgnekcfimaa.S.Sh
