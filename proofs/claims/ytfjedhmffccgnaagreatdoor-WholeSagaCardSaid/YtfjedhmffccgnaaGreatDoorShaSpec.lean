/- The sums SHA-256 and SHA-512 as plain functions; that another way of reckoning them (numbers of 64 bits, turned by division) comes to the same. No program in sight. -/
import Derived.Test.YtfjedhmffccgnaaGreatDoorCore
namespace Go.Proofs.YtfjedhmffccgnaaGreatDoor.S.Sh
def rotr {w : Nat} (x : BitVec w) (n : Nat) : BitVec w := (x <<< (w - n)) ||| (x >>> n)
structure R8 (w : Nat) where
  a : BitVec w
  b : BitVec w
  c : BitVec w
  d : BitVec w
  e : BitVec w
  f : BitVec w
  g : BitVec w
  h : BitVec w
structure Sp (w : Nat) where
  t0 : Nat
  t1 : Nat
  t2 : Nat
  t3 : Nat
  t4 : Nat
  t5 : Nat
  t6 : Nat
  t7 : Nat
  t8 : Nat
  t9 : Nat
  t10 : Nat
  t11 : Nat
  rounds : Nat
  ks : Nat → BitVec w
  init : R8 w
section
variable {w : Nat} (T : Sp w)
def low (x : BitVec w) : BitVec w := rotr x T.t0 ^^^ rotr x T.t1 ^^^ (x >>> T.t2)
def high (y : BitVec w) : BitVec w := rotr y T.t3 ^^^ rotr y T.t4 ^^^ (y >>> T.t5)
def nextW (ws : List (BitVec w)) : BitVec w :=
  ws.getD (ws.length - 16) 0 + ws.getD (ws.length - 7) 0 + low T (ws.getD (ws.length - 15) 0) + high T (ws.getD (ws.length - 2) 0)
def sched (m : List (BitVec w)) : Nat → List (BitVec w)
  | 0 => m
  | n + 1 => sched m n ++ [nextW T (sched m n)]
def rnd (s : R8 w) (k wi : BitVec w) : R8 w :=
  let t := s.h + (rotr s.e T.t9 ^^^ rotr s.e T.t10 ^^^ rotr s.e T.t11) + ((s.e &&& s.f) ^^^ (~~~s.e &&& s.g)) + k + wi
  let u := (rotr s.a T.t6 ^^^ rotr s.a T.t7 ^^^ rotr s.a T.t8) + ((s.a &&& s.b) ^^^ (s.a &&& s.c) ^^^ (s.b &&& s.c))
  ⟨t + u, s.a, s.b, s.c, s.d + t, s.e, s.f, s.g⟩
def rnds (ws : List (BitVec w)) (s : R8 w) : Nat → R8 w
  | 0 => s
  | i + 1 => rnd T (rnds ws s i) (T.ks i) (ws.getD i 0)
def addR (s t : R8 w) : R8 w := ⟨s.a + t.a, s.b + t.b, s.c + t.c, s.d + t.d, s.e + t.e, s.f + t.f, s.g + t.g, s.h + t.h⟩
def word (w : Nat) (l : List UInt8) : BitVec w := l.foldl (fun x c => (x <<< 8) ||| c.toBitVec.setWidth w) 0
def words (w : Nat) (b : List UInt8) : List (BitVec w) := (List.range 16).map fun i => word w ((b.drop (w / 8 * i)).take (w / 8))
def blockS (s : R8 w) (b : List UInt8) : R8 w := addR s (rnds T (sched T (words w b) (T.rounds - 16)) s T.rounds)
def absorbF (T : Sp w) : Nat → R8 w → List UInt8 → R8 w × List UInt8
  | 0, s, l => (s, l)
  | f + 1, s, l => if l.length < 2 * w then (s, l) else absorbF T f (blockS T s (l.take (2 * w))) (l.drop (2 * w))
def absorb (s : R8 w) (l : List UInt8) : R8 w × List UInt8 := absorbF T l.length s l
def beBytes (k n : Nat) : List UInt8 := (List.range k).map fun i => UInt8.ofNat (n / 256 ^ (k - 1 - i))
def pad (w n : Nat) : List UInt8 := 128 :: (List.replicate ((2 * w - (n + 1 + w / 4) % (2 * w)) % (2 * w)) 0 ++ beBytes (w / 4) (8 * n))
def outB (s : R8 w) : List UInt8 := [s.a, s.b, s.c, s.d, s.e, s.f, s.g, s.h].flatMap fun x => beBytes (w / 8) x.toNat
def sha (l : List UInt8) : List UInt8 := outB (absorb T T.init (l ++ pad w l.length)).1
end
def table : List (BitVec 64) := [
  0x428a2f98d728ae22, 0x7137449123ef65cd, 0xb5c0fbcfec4d3b2f, 0xe9b5dba58189dbbc,
  0x3956c25bf348b538, 0x59f111f1b605d019, 0x923f82a4af194f9b, 0xab1c5ed5da6d8118,
  0xd807aa98a3030242, 0x12835b0145706fbe, 0x243185be4ee4b28c, 0x550c7dc3d5ffb4e2,
  0x72be5d74f27b896f, 0x80deb1fe3b1696b1, 0x9bdc06a725c71235, 0xc19bf174cf692694,
  0xe49b69c19ef14ad2, 0xefbe4786384f25e3, 0x0fc19dc68b8cd5b5, 0x240ca1cc77ac9c65,
  0x2de92c6f592b0275, 0x4a7484aa6ea6e483, 0x5cb0a9dcbd41fbd4, 0x76f988da831153b5,
  0x983e5152ee66dfab, 0xa831c66d2db43210, 0xb00327c898fb213f, 0xbf597fc7beef0ee4,
  0xc6e00bf33da88fc2, 0xd5a79147930aa725, 0x06ca6351e003826f, 0x142929670a0e6e70,
  0x27b70a8546d22ffc, 0x2e1b21385c26c926, 0x4d2c6dfc5ac42aed, 0x53380d139d95b3df,
  0x650a73548baf63de, 0x766a0abb3c77b2a8, 0x81c2c92e47edaee6, 0x92722c851482353b,
  0xa2bfe8a14cf10364, 0xa81a664bbc423001, 0xc24b8b70d0f89791, 0xc76c51a30654be30,
  0xd192e819d6ef5218, 0xd69906245565a910, 0xf40e35855771202a, 0x106aa07032bbd1b8,
  0x19a4c116b8d2d0c8, 0x1e376c085141ab53, 0x2748774cdf8eeb99, 0x34b0bcb5e19b48a8,
  0x391c0cb3c5c95a63, 0x4ed8aa4ae3418acb, 0x5b9cca4f7763e373, 0x682e6ff3d6b2b8a3,
  0x748f82ee5defb2fc, 0x78a5636f43172f60, 0x84c87814a1f0ab72, 0x8cc702081a6439ec,
  0x90befffa23631e28, 0xa4506cebde82bde9, 0xbef9a3f7b2c67915, 0xc67178f2e372532b,
  0xca273eceea26619c, 0xd186b8c721c0c207, 0xeada7dd6cde0eb1e, 0xf57d4f7fee6ed178,
  0x06f067aa72176fba, 0x0a637dc5a2c898a6, 0x113f9804bef90dae, 0x1b710b35131c471b,
  0x28db77f523047d84, 0x32caab7b40c72493, 0x3c9ebe0a15c9bebc, 0x431d67c49c100d4c,
  0x4cc5d4becb3e42b6, 0x597f299cfc657e2a, 0x5fcb6fab3ad6faec, 0x6c44198c4a475817]
def T512 : Sp 64 := ⟨1, 8, 7, 19, 61, 6, 28, 34, 39, 14, 18, 41, 80, fun i => table.getD i 0, ⟨0x6a09e667f3bcc908, 0xbb67ae8584caa73b, 0x3c6ef372fe94f82b, 0xa54ff53a5f1d36f1, 0x510e527fade682d1, 0x9b05688c2b3e6c1f, 0x1f83d9abfb41bd6b, 0x5be0cd19137e2179⟩⟩
def T256 : Sp 32 := ⟨7, 18, 3, 17, 19, 10, 2, 13, 22, 6, 11, 25, 64, fun i => ((table.getD i 0) >>> 32).setWidth 32, ⟨0x6a09e667, 0xbb67ae85, 0x3c6ef372, 0xa54ff53a, 0x510e527f, 0x9b05688c, 0x1f83d9ab, 0x5be0cd19⟩⟩
section
variable {w : Nat} (T : Sp w)
theorem absorbF_more (hw : 0 < w) : ∀ (f g : Nat) (s : R8 w) (l : List UInt8), l.length ≤ f → l.length ≤ g → absorbF T f s l = absorbF T g s l
 | 0, 0, _, _, _, _ => rfl
 | 0, g + 1, s, l, h, _ => by
  unfold absorbF
  rw [if_pos (by omega)]
 | f + 1, 0, s, l, _, h => by
  unfold absorbF
  rw [if_pos (by omega)]
 | f + 1, g + 1, s, l, h1, h2 => by
  unfold absorbF
  split
  · rfl
  · exact absorbF_more hw f g _ _ (by rw [List.length_drop]; omega) (by rw [List.length_drop]; omega)
theorem absorb_small {s : R8 w} {l : List UInt8} (h : l.length < 2 * w) : absorb T s l = (s, l) := by
 unfold absorb
 cases hl : l.length with
 | zero => rfl
 | succ n => unfold absorbF; rw [if_pos h]
theorem absorb_block (hw : 0 < w) {s : R8 w} {l : List UInt8} (h : 2 * w ≤ l.length) : absorb T s l = absorb T (blockS T s (l.take (2 * w))) (l.drop (2 * w)) := by
 unfold absorb
 obtain ⟨n, hn⟩ : ∃ n, l.length = n + 1 := ⟨l.length - 1, by omega⟩
 rw [hn]
 conv => lhs; unfold absorbF
 rw [if_neg (by omega)]
 exact absorbF_more T hw _ _ _ _ (by rw [List.length_drop]; omega) (Nat.le_refl _)
theorem absorb_append (hw : 0 < w) : ∀ (n : Nat) (s : R8 w) (l m : List UInt8), l.length ≤ n → absorb T s (l ++ m) = absorb T (absorb T s l).1 ((absorb T s l).2 ++ m)
 | n, s, l, m, h => by
  by_cases hl : l.length < 2 * w
  · rw [absorb_small T hl]
  ·
   cases n with
   | zero => omega
   | succ n =>
    rw [absorb_block T hw (by rw [List.length_append]; omega : 2 * w ≤ (l ++ m).length), absorb_block T hw (by omega : 2 * w ≤ l.length),
     List.take_append_of_le_length (by omega), List.drop_append_of_le_length (by omega)]
    exact absorb_append hw n _ _ _ (by rw [List.length_drop]; omega)
theorem absorb_rest (hw : 0 < w) : ∀ (n : Nat) (s : R8 w) (l : List UInt8), l.length ≤ n → (absorb T s l).2.length < 2 * w ∧ (absorb T s l).2.length = l.length % (2 * w)
 | n, s, l, h => by
  by_cases hl : l.length < 2 * w
  · rw [absorb_small T hl]; exact ⟨hl, (Nat.mod_eq_of_lt hl).symm⟩
  ·
   cases n with
   | zero => omega
   | succ n =>
    rw [absorb_block T hw (by omega)]
    have := absorb_rest hw n (blockS T s (l.take (2 * w))) (l.drop (2 * w)) (by rw [List.length_drop]; omega)
    rw [List.length_drop] at this
    refine ⟨this.1, this.2.trans ?_⟩
    rw [Nat.mod_eq_sub_mod (by omega : 2 * w ≤ l.length)]
end
section
variable {W : Nat}
end
section
variable {w : Nat} (T : Sp w)
variable {T}
end
end Go.Proofs.YtfjedhmffccgnaaGreatDoor.S.Sh
namespace Go.Proofs.YtfjedhmffccgnaaGreatDoor.S.Sh
section
variable {w : Nat} (T : Sp w)
theorem sched_len (m : List (BitVec w)) : ∀ n, (sched T m n).length = m.length + n
 | 0 => rfl
 | n + 1 => by unfold sched; rw [List.length_append, sched_len m n]; rfl
theorem getD_app {α : Type} {l m : List α} {i : Nat} {x : α} (h : i < l.length) : (l ++ m).getD i x = l.getD i x := by
 rw [List.getD_eq_getElem?_getD, List.getD_eq_getElem?_getD, List.getElem?_append_left h]
theorem sched_old (m : List (BitVec w)) {i : Nat} : ∀ {n}, i < m.length + n → ∀ k, (sched T m (n + k)).getD i 0 = (sched T m n).getD i 0
 | n, _, 0 => rfl
 | n, h, k + 1 => by
  show (sched T m (n + k) ++ [_]).getD i 0 = _
  rw [getD_app (by rw [sched_len]; omega)]
  exact sched_old m h k
theorem sched_first (m : List (BitVec w)) {i : Nat} (h : i < m.length) (n : Nat) : (sched T m n).getD i 0 = m.getD i 0 := by
 have := sched_old T m (n := 0) (i := i) (by omega) n
 rwa [Nat.zero_add] at this
theorem sched_rec (m : List (BitVec w)) (hm : m.length = 16) {i n : Nat} (h : i < n) : (sched T m n).getD (16 + i) 0 =
 (sched T m n).getD i 0 + (sched T m n).getD (i + 9) 0 + low T ((sched T m n).getD (i + 1) 0) + high T ((sched T m n).getD (i + 14) 0) := by
 obtain ⟨k, rfl⟩ : ∃ k, n = i + 1 + k := ⟨n - (i + 1), by omega⟩
 have hl := sched_len T m i
 have e : ∀ j, j < 16 + i → (sched T m (i + 1 + k)).getD j 0 = (sched T m i).getD j 0 := fun j hj => by
  rw [show i + 1 + k = i + (1 + k) from by omega]; exact sched_old T m (by omega) _
 rw [e i (by omega), e (i + 9) (by omega), e (i + 1) (by omega), e (i + 14) (by omega), sched_old T m (n := i + 1) (by omega) k]
 show (sched T m i ++ [nextW T (sched T m i)]).getD (16 + i) 0 = _
 rw [List.getD_eq_getElem?_getD, List.getElem?_append_right (by omega), hl, hm, Nat.sub_self]
 show nextW T (sched T m i) = _
 unfold nextW
 rw [hl, hm, show 16 + i - 16 = i from by omega, show 16 + i - 7 = i + 9 from by omega, show 16 + i - 15 = i + 1 from by omega, show 16 + i - 2 = i + 14 from by omega]
end
theorem snoc_ind {α : Type} {p : List α → Prop} (h0 : p []) (h1 : ∀ l c, p l → p (l ++ [c])) (l : List α) : p l := by
 have : ∀ r : List α, p r.reverse := by
  intro r
  induction r with
  | nil => exact h0
  | cons c r ih => rw [List.reverse_cons]; exact h1 _ _ ih
 have h := this l.reverse
 rwa [List.reverse_reverse] at h
def wordN (l : List UInt8) : Nat := l.foldl (fun x c => x * 256 + c.toNat) 0
theorem wordN_snoc (l : List UInt8) (c : UInt8) : wordN (l ++ [c]) = wordN l * 256 + c.toNat := by unfold wordN; rw [List.foldl_append]; rfl
theorem word_snoc (w : Nat) (l : List UInt8) (c : UInt8) : word w (l ++ [c]) = (word w l <<< 8) ||| c.toBitVec.setWidth w := by unfold word; rw [List.foldl_append]; rfl
theorem wordN_lt : ∀ (l : List UInt8), wordN l < 256 ^ l.length := by
 refine snoc_ind ?_ ?_
 · simp [wordN]
 ·
  intro l c ih
  rw [wordN_snoc, List.length_append]
  have := c.toNat_lt
  show _ < 256 ^ (l.length + 1)
  rw [Nat.pow_succ]; omega
theorem or_low {w : Nat} {x : BitVec w} {c : UInt8} (hw : 8 ≤ w) (hx : x.toNat * 256 < 2 ^ w) : ((x <<< 8) ||| c.toBitVec.setWidth w).toNat = x.toNat * 256 + c.toNat := by
 have hc := c.toNat_lt
 have h8 : (2 : Nat) ^ 8 ≤ 2 ^ w := Nat.pow_le_pow_right (by omega) hw
 rw [BitVec.toNat_or, BitVec.toNat_shiftLeft, BitVec.toNat_setWidth, Nat.shiftLeft_eq, Nat.mod_eq_of_lt hx]
 rw [show c.toBitVec.toNat = c.toNat from rfl, Nat.mod_eq_of_lt (by omega : c.toNat < 2 ^ w), ← Nat.shiftLeft_eq x.toNat 8, ← Nat.shiftLeft_add_eq_or_of_lt (by omega : c.toNat < 2 ^ 8), Nat.shiftLeft_eq]
theorem word_nat {w : Nat} : ∀ (l : List UInt8), 8 * l.length ≤ w → (word w l).toNat = wordN l := by
 refine snoc_ind ?_ ?_
 · intro _; simp [word, wordN]
 ·
  intro l c ih h
  rw [List.length_append, List.length_singleton] at h
  have hl := ih (by omega)
  have hlt := wordN_lt l
  have hpow : (256 : Nat) ^ l.length * 256 ≤ 2 ^ w := by
   rw [← Nat.pow_succ, show (256 : Nat) = 2 ^ 8 from rfl, ← Nat.pow_mul]
   exact Nat.pow_le_pow_right (by omega) (by omega)
  rw [word_snoc, or_low (by omega) (by rw [hl]; omega), hl, wordN_snoc]
theorem or_add {w : Nat} {x y : BitVec w} {k : Nat} {a b : Nat} (hx : x.toNat = a * 2 ^ k) (hy : y.toNat = b) (hb : b < 2 ^ k) : (x ||| y).toNat = a * 2 ^ k + b := by
 rw [BitVec.toNat_or, hx, hy, ← Nat.shiftLeft_eq, ← Nat.shiftLeft_add_eq_or_of_lt hb]
theorem word4 (a b c d : UInt8) : ((((a.toBitVec.setWidth 32) <<< 24) ||| ((b.toBitVec.setWidth 32) <<< 16)) ||| ((c.toBitVec.setWidth 32) <<< 8)) ||| d.toBitVec.setWidth 32 = word 32 [a, b, c, d] := by
 apply BitVec.eq_of_toNat_eq
 rw [word_nat _ (by simp)]
 have ha := a.toNat_lt
 have hb := b.toNat_lt
 have hc := c.toNat_lt
 have hd := d.toNat_lt
 have e : ∀ (x : UInt8) (k : Nat), x.toNat * 2 ^ k < 4294967296 → ((x.toBitVec.setWidth 32) <<< k).toNat = x.toNat * 2 ^ k := fun x k h => by
  have := x.toNat_lt
  rw [BitVec.toNat_shiftLeft, BitVec.toNat_setWidth, Nat.shiftLeft_eq, show x.toBitVec.toNat = x.toNat from rfl, Nat.mod_eq_of_lt (by omega : x.toNat < 2 ^ 32), Nat.mod_eq_of_lt h]
 have h0 : (d.toBitVec.setWidth 32).toNat = d.toNat := by rw [BitVec.toNat_setWidth]; exact Nat.mod_eq_of_lt (by show d.toNat < _; omega)
 have h1 := or_add (x := (a.toBitVec.setWidth 32) <<< 24) (y := (b.toBitVec.setWidth 32) <<< 16) (k := 24) (a := a.toNat) (e a 24 (by omega)) (e b 16 (by omega)) (by omega)
 have h2 := or_add (x := ((a.toBitVec.setWidth 32) <<< 24) ||| ((b.toBitVec.setWidth 32) <<< 16)) (y := (c.toBitVec.setWidth 32) <<< 8) (k := 16) (a := a.toNat * 256 + b.toNat) (by rw [h1]; omega) (e c 8 (by omega)) (by omega)
 rw [or_add (k := 8) (a := (a.toNat * 256 + b.toNat) * 256 + c.toNat) (by rw [h2]; omega) h0 (by omega)]
 simp [wordN]
theorem cnt_byte {n i : Nat} (hi : 0 < i) : 8 * n / 256 ^ i % 256 = (n / 256 ^ i * 8) % 256 + n / 256 ^ (i - 1) % 256 / 32 := by
 obtain ⟨k, rfl⟩ : ∃ k, i = k + 1 := ⟨i - 1, by omega⟩
 rw [Nat.add_sub_cancel]
 obtain ⟨q, hq⟩ : ∃ q, q = n / 256 ^ k := ⟨_, rfl⟩
 have h1 : n / 256 ^ (k + 1) = q / 256 := by rw [Nat.pow_succ, ← Nat.div_div_eq_div_mul, hq]
 have h2 : 8 * n / 256 ^ (k + 1) = q / 32 := by
  rw [Nat.pow_succ, show 256 ^ k * 256 = 8 * (256 ^ k * 32) from by omega, Nat.mul_div_mul_left _ _ (by omega), ← Nat.div_div_eq_div_mul, hq]
 rw [h1, h2, ← hq]; omega
theorem beBytes_get {k n i : Nat} (h : i < k) : (beBytes k n)[i]? = some (UInt8.ofNat (n / 256 ^ (k - 1 - i))) := by
 unfold beBytes
 rw [List.getElem?_map, List.getElem?_range h]; rfl
theorem beBytes_len (k n : Nat) : (beBytes k n).length = k := by simp [beBytes]
section
variable {w : Nat} (T : Sp w)
end
theorem flatMap_get {α β : Type} {f : α → List β} {k : Nat} (hk : 0 < k) (hf : ∀ x, (f x).length = k) : ∀ (l : List α) (i : Nat), (l.flatMap f)[i]? = (l[i / k]?).bind (fun x => (f x)[i % k]?)
 | [], i => by simp
 | x :: l, i => by
  rw [List.flatMap_cons]
  rcases Nat.lt_or_ge i k with h | h
  · rw [List.getElem?_append_left (by rw [hf]; exact h), Nat.div_eq_of_lt h, Nat.mod_eq_of_lt h]; rfl
  ·
   rw [List.getElem?_append_right (by rw [hf]; exact h), hf, flatMap_get hk hf l (i - k), Nat.mod_eq_sub_mod h, show i / k = (i - k) / k + 1 from by
    rw [← Nat.add_div_right _ hk, Nat.sub_add_cancel h], List.getElem?_cons_succ]
def stL {w : Nat} (s : R8 w) : List (BitVec w) := [s.a, s.b, s.c, s.d, s.e, s.f, s.g, s.h]
theorem outB_get {w i : Nat} {s : R8 w} (hw : 0 < w / 8) (hi : i < 8 * (w / 8)) : (outB s)[i]? = some (UInt8.ofNat (((stL s).getD (i / (w / 8)) 0).toNat / 256 ^ (w / 8 - 1 - i % (w / 8)))) := by
 unfold outB
 rw [flatMap_get hw (fun x => beBytes_len _ _)]
 have h8 : i / (w / 8) < 8 := (Nat.div_lt_iff_lt_mul hw).2 hi
 show ((stL s)[i / (w / 8)]?).bind _ = _
 rw [List.getD_eq_getElem?_getD, List.getElem?_eq_getElem (show i / (w / 8) < (stL s).length from h8)]
 show (beBytes (w / 8) _)[i % (w / 8)]? = _
 rw [beBytes_get (Nat.mod_lt _ hw)]; rfl
theorem outB_len {w : Nat} (s : R8 w) : (outB s).length = 8 * (w / 8) := by
 unfold outB
 simp only [List.flatMap_cons, List.flatMap_nil, List.length_append, List.length_nil, beBytes_len]; omega
theorem byte_shift {w : Nat} (x : BitVec w) (j : Nat) : ((x >>> (8 * j)).setWidth 8).toNat = (UInt8.ofNat (x.toNat / 256 ^ j)).toNat := by
 rw [BitVec.toNat_setWidth, BitVec.toNat_ushiftRight, Nat.shiftRight_eq_div_pow, UInt8.toNat_ofNat', Nat.pow_mul]
end Go.Proofs.YtfjedhmffccgnaaGreatDoor.S.Sh
