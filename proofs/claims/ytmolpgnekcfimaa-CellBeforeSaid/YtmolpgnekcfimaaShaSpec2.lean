/- More of the plain laws of the sums: lists of words, words of bytes, the count of bits, bytes of words. No program in sight. -/
import Derived.Test.YtmolpgnekcfimaaShaSpec
namespace Go.Proofs.Ytmolpgnekcfimaa.S.Sh

section
variable {w : Nat} (T : Sp w)
theorem sched_len (m : List (BitVec w)) : ∀ n, (sched T m n).length = m.length + n
  | 0 => rfl
  | n + 1 => by unfold sched; rw [List.length_append, sched_len m n]; rfl
theorem getD_app {α : Type} {l m : List α} {i : Nat} {x : α} (h : i < l.length) : (l ++ m).getD i x = l.getD i x := by
  rw [List.getD_eq_getElem?_getD, List.getD_eq_getElem?_getD, List.getElem?_append_left h]
theorem sched_old (m : List (BitVec w)) {i : Nat} : ∀ {n}, i < m.length + n → ∀ k, (sched T m (n + k)).getD i 0 = (sched T m n).getD i 0
  | n, _, 0 => rfl
  | n, h, k + 1 => by
    show (sched T m (n + k) ++ [_]).getD i 0 = _
    rw [getD_app (by rw [sched_len]; omega)]
    exact sched_old m h k
theorem sched_first (m : List (BitVec w)) {i : Nat} (h : i < m.length) (n : Nat) : (sched T m n).getD i 0 = m.getD i 0 := by
  have := sched_old T m (n := 0) (i := i) (by omega) n
  rwa [Nat.zero_add] at this
theorem sched_rec (m : List (BitVec w)) (hm : m.length = 16) {i n : Nat} (h : i < n) : (sched T m n).getD (16 + i) 0 =
    (sched T m n).getD i 0 + (sched T m n).getD (i + 9) 0 + low T ((sched T m n).getD (i + 1) 0) + high T ((sched T m n).getD (i + 14) 0) := by
  obtain ⟨k, rfl⟩ : ∃ k, n = i + 1 + k := ⟨n - (i + 1), by omega⟩
  have hl := sched_len T m i
  have e : ∀ j, j < 16 + i → (sched T m (i + 1 + k)).getD j 0 = (sched T m i).getD j 0 := fun j hj => by
    rw [show i + 1 + k = i + (1 + k) from by omega]; exact sched_old T m (by omega) _
  rw [e i (by omega), e (i + 9) (by omega), e (i + 1) (by omega), e (i + 14) (by omega), sched_old T m (n := i + 1) (by omega) k]
  show (sched T m i ++ [nextW T (sched T m i)]).getD (16 + i) 0 = _
  rw [List.getD_eq_getElem?_getD, List.getElem?_append_right (by omega), hl, hm, Nat.sub_self]
  show nextW T (sched T m i) = _
  unfold nextW
  rw [hl, hm, show 16 + i - 16 = i from by omega, show 16 + i - 7 = i + 9 from by omega, show 16 + i - 15 = i + 1 from by omega, show 16 + i - 2 = i + 14 from by omega]
end

/-! ### Words of bytes -/
theorem snoc_ind {α : Type} {p : List α → Prop} (h0 : p []) (h1 : ∀ l c, p l → p (l ++ [c])) (l : List α) : p l := by
  have : ∀ r : List α, p r.reverse := by
    intro r
    induction r with
    | nil => exact h0
    | cons c r ih => rw [List.reverse_cons]; exact h1 _ _ ih
  have h := this l.reverse
  rwa [List.reverse_reverse] at h
def wordN (l : List UInt8) : Nat := l.foldl (fun x c => x * 256 + c.toNat) 0
theorem wordN_snoc (l : List UInt8) (c : UInt8) : wordN (l ++ [c]) = wordN l * 256 + c.toNat := by unfold wordN; rw [List.foldl_append]; rfl
theorem word_snoc (w : Nat) (l : List UInt8) (c : UInt8) : word w (l ++ [c]) = (word w l <<< 8) ||| c.toBitVec.setWidth w := by unfold word; rw [List.foldl_append]; rfl
theorem wordN_lt : ∀ (l : List UInt8), wordN l < 256 ^ l.length := by
  refine snoc_ind ?_ ?_
  · simp [wordN]
  · intro l c ih
    rw [wordN_snoc, List.length_append]
    have := c.toNat_lt
    show _ < 256 ^ (l.length + 1)
    rw [Nat.pow_succ]; omega
theorem or_low {w : Nat} {x : BitVec w} {c : UInt8} (hw : 8 ≤ w) (hx : x.toNat * 256 < 2 ^ w) : ((x <<< 8) ||| c.toBitVec.setWidth w).toNat = x.toNat * 256 + c.toNat := by
  have hc := c.toNat_lt
  have h8 : (2 : Nat) ^ 8 ≤ 2 ^ w := Nat.pow_le_pow_right (by omega) hw
  rw [BitVec.toNat_or, BitVec.toNat_shiftLeft, BitVec.toNat_setWidth, Nat.shiftLeft_eq, Nat.mod_eq_of_lt hx]
  rw [show c.toBitVec.toNat = c.toNat from rfl, Nat.mod_eq_of_lt (by omega : c.toNat < 2 ^ w), ← Nat.shiftLeft_eq x.toNat 8, ← Nat.shiftLeft_add_eq_or_of_lt (by omega : c.toNat < 2 ^ 8), Nat.shiftLeft_eq]
theorem word_nat {w : Nat} : ∀ (l : List UInt8), 8 * l.length ≤ w → (word w l).toNat = wordN l := by
  refine snoc_ind ?_ ?_
  · intro _; simp [word, wordN]
  · intro l c ih h
    rw [List.length_append, List.length_singleton] at h
    have hl := ih (by omega)
    have hlt := wordN_lt l
    have hpow : (256 : Nat) ^ l.length * 256 ≤ 2 ^ w := by
      rw [← Nat.pow_succ, show (256 : Nat) = 2 ^ 8 from rfl, ← Nat.pow_mul]
      exact Nat.pow_le_pow_right (by omega) (by omega)
    rw [word_snoc, or_low (by omega) (by rw [hl]; omega), hl, wordN_snoc]
theorem or_add {w : Nat} {x y : BitVec w} {k : Nat} {a b : Nat} (hx : x.toNat = a * 2 ^ k) (hy : y.toNat = b) (hb : b < 2 ^ k) : (x ||| y).toNat = a * 2 ^ k + b := by
  rw [BitVec.toNat_or, hx, hy, ← Nat.shiftLeft_eq, ← Nat.shiftLeft_add_eq_or_of_lt hb]
/-- A word as the program reckons it. -/
theorem word4 (a b c d : UInt8) : ((((a.toBitVec.setWidth 32) <<< 24) ||| ((b.toBitVec.setWidth 32) <<< 16)) ||| ((c.toBitVec.setWidth 32) <<< 8)) ||| d.toBitVec.setWidth 32 = word 32 [a, b, c, d] := by
  apply BitVec.eq_of_toNat_eq
  rw [word_nat _ (by simp)]
  have ha := a.toNat_lt
  have hb := b.toNat_lt
  have hc := c.toNat_lt
  have hd := d.toNat_lt
  have e : ∀ (x : UInt8) (k : Nat), x.toNat * 2 ^ k < 4294967296 → ((x.toBitVec.setWidth 32) <<< k).toNat = x.toNat * 2 ^ k := fun x k h => by
    have := x.toNat_lt
    rw [BitVec.toNat_shiftLeft, BitVec.toNat_setWidth, Nat.shiftLeft_eq, show x.toBitVec.toNat = x.toNat from rfl, Nat.mod_eq_of_lt (by omega : x.toNat < 2 ^ 32), Nat.mod_eq_of_lt h]
  have h0 : (d.toBitVec.setWidth 32).toNat = d.toNat := by rw [BitVec.toNat_setWidth]; exact Nat.mod_eq_of_lt (by show d.toNat < _; omega)
  have h1 := or_add (x := (a.toBitVec.setWidth 32) <<< 24) (y := (b.toBitVec.setWidth 32) <<< 16) (k := 24) (a := a.toNat) (e a 24 (by omega)) (e b 16 (by omega)) (by omega)
  have h2 := or_add (x := ((a.toBitVec.setWidth 32) <<< 24) ||| ((b.toBitVec.setWidth 32) <<< 16)) (y := (c.toBitVec.setWidth 32) <<< 8) (k := 16) (a := a.toNat * 256 + b.toNat) (by rw [h1]; omega) (e c 8 (by omega)) (by omega)
  rw [or_add (k := 8) (a := (a.toNat * 256 + b.toNat) * 256 + c.toNat) (by rw [h2]; omega) h0 (by omega)]
  simp [wordN]

/-! ### The count of bits -/
theorem cnt_byte {n i : Nat} (hi : 0 < i) : 8 * n / 256 ^ i % 256 = (n / 256 ^ i * 8) % 256 + n / 256 ^ (i - 1) % 256 / 32 := by
  obtain ⟨k, rfl⟩ : ∃ k, i = k + 1 := ⟨i - 1, by omega⟩
  rw [Nat.add_sub_cancel]
  obtain ⟨q, hq⟩ : ∃ q, q = n / 256 ^ k := ⟨_, rfl⟩
  have h1 : n / 256 ^ (k + 1) = q / 256 := by rw [Nat.pow_succ, ← Nat.div_div_eq_div_mul, hq]
  have h2 : 8 * n / 256 ^ (k + 1) = q / 32 := by
    rw [Nat.pow_succ, show 256 ^ k * 256 = 8 * (256 ^ k * 32) from by omega, Nat.mul_div_mul_left _ _ (by omega), ← Nat.div_div_eq_div_mul, hq]
  rw [h1, h2, ← hq]; omega
theorem cnt_ref {n i : Nat} : 8 * n / 256 ^ (i + 1) % 256 = n / 32 / 256 ^ i % 256 := by
  rw [Nat.pow_succ, show 256 ^ i * 256 = 8 * (32 * 256 ^ i) from by omega, Nat.mul_div_mul_left _ _ (by omega), Nat.div_div_eq_div_mul]
theorem beBytes_get {k n i : Nat} (h : i < k) : (beBytes k n)[i]? = some (UInt8.ofNat (n / 256 ^ (k - 1 - i))) := by
  unfold beBytes
  rw [List.getElem?_map, List.getElem?_range h]; rfl
theorem beBytes_len (k n : Nat) : (beBytes k n).length = k := by simp [beBytes]

/-! ### Block by block -/
section
variable {w : Nat} (T : Sp w)
def steps (s : R8 w) (b : List UInt8) : Nat → R8 w
  | 0 => s
  | n + 1 => blockS T (steps s b n) ((b.drop (2 * w * n)).take (2 * w))
theorem steps_shift (s : R8 w) (b : List UInt8) : ∀ n, steps T (blockS T s (b.take (2 * w))) (b.drop (2 * w)) n = steps T s b (n + 1)
  | 0 => by unfold steps; simp [steps]
  | n + 1 => by
    unfold steps
    rw [steps_shift s b n, List.drop_drop, show 2 * w + 2 * w * n = 2 * w * (n + 1) from by rw [Nat.mul_succ]; omega]
theorem absorb_steps (hw : 0 < w) : ∀ (n : Nat) (s : R8 w) (b : List UInt8), b.length = 2 * w * n → absorb T s b = (steps T s b n, [])
  | 0, s, b, h => by
    obtain rfl : b = [] := List.eq_nil_of_length_eq_zero (by simpa using h)
    rw [absorb_small T (by simp; omega)]; rfl
  | n + 1, s, b, h => by
    rw [Nat.mul_succ] at h
    have hpos : 0 ≤ 2 * w * n := Nat.zero_le _
    rw [absorb_block T hw (by omega), absorb_steps hw n _ _ (by rw [List.length_drop]; omega), steps_shift]
theorem pad_len (hw : 0 < w) (n : Nat) : (n + (pad w n).length) % (2 * w) = 0 := by
  unfold pad
  rw [List.length_cons, List.length_append, List.length_replicate, beBytes_len]
  obtain ⟨q, hq⟩ : ∃ q, q = n + 1 + w / 4 := ⟨_, rfl⟩
  rw [← hq, show n + ((2 * w - q % (2 * w)) % (2 * w) + w / 4 + 1) = q + (2 * w - q % (2 * w)) % (2 * w) from by omega]
  have hlt := Nat.mod_lt q (show 0 < 2 * w by omega)
  rw [Nat.add_mod, Nat.mod_mod]
  rcases Nat.eq_zero_or_pos (q % (2 * w)) with h0 | h0
  · rw [h0, Nat.sub_zero, Nat.mod_self]
    exact Nat.zero_mod _
  · rw [Nat.mod_eq_of_lt (show 2 * w - q % (2 * w) < 2 * w by omega), show q % (2 * w) + (2 * w - q % (2 * w)) = 2 * w from by omega, Nat.mod_self]
/-- The sum, block by block. -/
theorem sha_steps (hw : 0 < w) (l : List UInt8) : sha T l = outB (steps T T.init (l ++ pad w l.length) ((l ++ pad w l.length).length / (2 * w))) := by
  unfold sha
  rw [absorb_steps T hw ((l ++ pad w l.length).length / (2 * w))]
  have := pad_len hw l.length
  rw [List.length_append]
  exact (Nat.mul_div_cancel' (Nat.dvd_of_mod_eq_zero this)).symm
/-- The sum behind what came in. -/
theorem sha_absorb (hw : 0 < w) (l : List UInt8) : sha T l = outB (absorb T (absorb T T.init l).1 ((absorb T T.init l).2 ++ pad w l.length)).1 := by
  unfold sha
  rw [absorb_append T hw _ _ _ _ (Nat.le_refl _)]
end

/-! ### Bytes of words -/
theorem flatMap_get {α β : Type} {f : α → List β} {k : Nat} (hk : 0 < k) (hf : ∀ x, (f x).length = k) : ∀ (l : List α) (i : Nat), (l.flatMap f)[i]? = (l[i / k]?).bind (fun x => (f x)[i % k]?)
  | [], i => by simp
  | x :: l, i => by
    rw [List.flatMap_cons]
    rcases Nat.lt_or_ge i k with h | h
    · rw [List.getElem?_append_left (by rw [hf]; exact h), Nat.div_eq_of_lt h, Nat.mod_eq_of_lt h]; rfl
    · rw [List.getElem?_append_right (by rw [hf]; exact h), hf, flatMap_get hk hf l (i - k), Nat.mod_eq_sub_mod h, show i / k = (i - k) / k + 1 from by
        rw [← Nat.add_div_right _ hk, Nat.sub_add_cancel h], List.getElem?_cons_succ]
def stL {w : Nat} (s : R8 w) : List (BitVec w) := [s.a, s.b, s.c, s.d, s.e, s.f, s.g, s.h]
theorem outB_get {w i : Nat} {s : R8 w} (hw : 0 < w / 8) (hi : i < 8 * (w / 8)) : (outB s)[i]? = some (UInt8.ofNat (((stL s).getD (i / (w / 8)) 0).toNat / 256 ^ (w / 8 - 1 - i % (w / 8)))) := by
  unfold outB
  rw [flatMap_get hw (fun x => beBytes_len _ _)]
  have h8 : i / (w / 8) < 8 := (Nat.div_lt_iff_lt_mul hw).2 hi
  show ((stL s)[i / (w / 8)]?).bind _ = _
  rw [List.getD_eq_getElem?_getD, List.getElem?_eq_getElem (show i / (w / 8) < (stL s).length from h8)]
  show (beBytes (w / 8) _)[i % (w / 8)]? = _
  rw [beBytes_get (Nat.mod_lt _ hw)]; rfl
theorem outB_len {w : Nat} (s : R8 w) : (outB s).length = 8 * (w / 8) := by
  unfold outB
  simp only [List.flatMap_cons, List.flatMap_nil, List.length_append, List.length_nil, beBytes_len]; omega
theorem byte_shift {w : Nat} (x : BitVec w) (j : Nat) : ((x >>> (8 * j)).setWidth 8).toNat = (UInt8.ofNat (x.toNat / 256 ^ j)).toNat := by
  rw [BitVec.toNat_setWidth, BitVec.toNat_ushiftRight, Nat.shiftRight_eq_div_pow, UInt8.toNat_ofNat', Nat.pow_mul]
theorem byte_div {X : BitVec 64} {j : Nat} (hj : 8 * j < 64) : (((X / pw (8 * j)) % 256#64).setWidth 8).toNat = (UInt8.ofNat (X.toNat / 256 ^ j)).toNat := by
  rw [BitVec.toNat_setWidth, BitVec.toNat_umod, BitVec.toNat_udiv, pw_nat hj, UInt8.toNat_ofNat', Nat.pow_mul, BitVec.toNat_ofNat]
  exact Nat.mod_mod_of_dvd _ (Nat.dvd_refl 256)
end Go.Proofs.Ytmolpgnekcfimaa.S.Sh
