/- What a disk's places say: numbers as bytes, records, and what is had again. Plain Lean, no program in sight. -/
import Derived.Test.YtmolpgnekcfimaaShaSpec2
namespace Go.Proofs.Ytmolpgnekcfimaa.S
open Sh

/-- The number of so many bytes, the greatest first. -/
def be : List UInt8 → Nat
  | [] => 0
  | x :: l => x.toNat * 256 ^ l.length + be l
/-- So many bytes of a number. -/
def dig (n : Nat) : Nat → List UInt8
  | 0 => []
  | w + 1 => UInt8.ofNat (n / 256 ^ w) :: dig n w

theorem dig_len (n : Nat) : ∀ w, (dig n w).length = w
  | 0 => rfl
  | w + 1 => by rw [dig, List.length_cons, dig_len n w]
theorem dig_get (n : Nat) : ∀ (w i : Nat), i < w → (dig n w)[i]? = some (UInt8.ofNat (n / 256 ^ (w - 1 - i)))
  | 0, i, h => by omega
  | w + 1, 0, _ => rfl
  | w + 1, i + 1, h => by
    rw [dig, List.getElem?_cons_succ, dig_get n w i (by omega), show w - 1 - i = w + 1 - 1 - (i + 1) from by omega]
theorem be_lt : ∀ l : List UInt8, be l < 256 ^ l.length
  | [] => by simp [be]
  | x :: l => by
    have h := be_lt l
    have hx := x.toNat_lt
    rw [be, List.length_cons, Nat.pow_succ]
    have : x.toNat * 256 ^ l.length ≤ 255 * 256 ^ l.length := Nat.mul_le_mul_right _ (by omega)
    omega
theorem be_snoc (x : UInt8) : ∀ l : List UInt8, be (l ++ [x]) = be l * 256 + x.toNat
  | [] => by simp [be]
  | y :: l => by
    rw [List.cons_append, be, be_snoc x l, be, List.length_append, List.length_singleton, Nat.pow_succ, Nat.add_mul, Nat.mul_assoc, Nat.add_assoc]
theorem be_take {l : List UInt8} {k : Nat} {x : UInt8} (h : l[k]? = some x) : be (l.take (k + 1)) = be (l.take k) * 256 + x.toNat := by
  rw [List.take_add_one, h]; exact be_snoc x _
theorem dig_be : ∀ l : List UInt8, dig (be l) l.length = l := by
  have key : ∀ (l : List UInt8) (m : Nat), dig (m * 256 ^ l.length + be l) l.length = l := by
    intro l
    induction l with
    | nil => intro m; rfl
    | cons x l ih =>
      intro m
      have hb := be_lt l
      have hx := x.toNat_lt
      have hp : 0 < 256 ^ l.length := Nat.pow_pos (by decide)
      rw [List.length_cons, dig]
      have e1 : m * 256 ^ (l.length + 1) + be (x :: l) = (m * 256 + x.toNat) * 256 ^ l.length + be l := by
        rw [be, Nat.pow_succ, Nat.add_mul, Nat.mul_comm (256 ^ l.length) 256, ← Nat.mul_assoc, Nat.add_assoc]
      rw [e1, ih (m * 256 + x.toNat)]
      congr 1
      rw [Nat.add_comm, Nat.add_mul_div_right _ _ hp, Nat.div_eq_of_lt hb, Nat.zero_add]
      apply UInt8.toNat_inj.1
      rw [UInt8.toNat_ofNat']
      omega
  intro l
  have := key l 0
  rwa [Nat.zero_mul, Nat.zero_add] at this
theorem be_dig (n : Nat) : ∀ w, n < 256 ^ w → be (dig n w) = n := by
  have key : ∀ w, be (dig n w) = n % 256 ^ w := by
    intro w
    induction w with
    | zero => simp [dig, be, Nat.mod_one]
    | succ w ih =>
      rw [dig, be, ih, dig_len, UInt8.toNat_ofNat', show (2 : Nat) ^ 8 = 256 from rfl, Nat.mod_pow_succ (x := n) (b := 256) (k := w), Nat.mul_comm (n / 256 ^ w % 256)]
      omega
  intro w h
  rw [key, Nat.mod_eq_of_lt h]

/-- A value with its number, its length and its sum. -/
def recB (k : Nat) (v : List UInt8) : List UInt8 := dig k 8 ++ dig v.length 4 ++ sha T256 (dig k 8 ++ dig v.length 4 ++ v) ++ v
/-- What lies at a place: its number, its value, and whether it is whole. -/
def numP (b : List UInt8) : Nat := be (b.take 8)
def lenP (b : List UInt8) : Nat := be ((b.drop 8).take 4)
def valP (b : List UInt8) : List UInt8 := (b.drop 44).take (lenP b)
def okP (b : List UInt8) : Bool := decide (numP b ≠ 0 ∧ numP b < 281474976710656 ∧ lenP b ≤ b.length - 44) && decide (sha T256 (b.take 12 ++ valP b) = (b.drop 12).take 32)
theorem sum_len (l : List UInt8) : (sha T256 l).length = 32 := outB_len _
theorem recB_len (k : Nat) (v : List UInt8) : (recB k v).length = 44 + v.length := by
  unfold recB
  simp only [List.length_append, dig_len, sum_len]
theorem recB_take8 (k : Nat) (v r : List UInt8) : (recB k v ++ r).take 8 = dig k 8 := by
  unfold recB
  simp only [List.append_assoc]
  exact List.take_left' (dig_len k 8)
theorem recB_len4 (k : Nat) (v r : List UInt8) : ((recB k v ++ r).drop 8).take 4 = dig v.length 4 := by
  unfold recB
  simp only [List.append_assoc]
  rw [List.drop_left' (dig_len k 8), List.take_left' (dig_len _ 4)]
theorem recB_take12 (k : Nat) (v r : List UInt8) : (recB k v ++ r).take 12 = dig k 8 ++ dig v.length 4 := by
  unfold recB
  rw [List.append_assoc (dig k 8 ++ dig v.length 4), List.append_assoc (dig k 8 ++ dig v.length 4)]
  exact List.take_left' (by rw [List.length_append, dig_len, dig_len])
theorem recB_sum (k : Nat) (v r : List UInt8) : ((recB k v ++ r).drop 12).take 32 = sha T256 (dig k 8 ++ dig v.length 4 ++ v) := by
  unfold recB
  rw [List.append_assoc (dig k 8 ++ dig v.length 4), List.append_assoc (dig k 8 ++ dig v.length 4), List.drop_left' (by rw [List.length_append, dig_len, dig_len]), List.append_assoc]
  exact List.take_left' (sum_len _)
theorem recB_val (k : Nat) (v r : List UInt8) (hv : v.length < 4294967296) : valP (recB k v ++ r) = v := by
  have h4 : lenP (recB k v ++ r) = v.length := by unfold lenP; rw [recB_len4]; exact be_dig _ 4 hv
  unfold valP
  rw [h4]
  unfold recB
  rw [List.append_assoc, List.drop_left' (by rw [List.length_append, List.length_append, dig_len, dig_len, sum_len])]
  exact List.take_left' rfl
theorem recB_ok (k : Nat) (v r : List UInt8) (hk : 0 < k) (hk2 : k < 281474976710656) (hv : v.length < 4294967296) : okP (recB k v ++ r) = true ∧ numP (recB k v ++ r) = k ∧ valP (recB k v ++ r) = v := by
  have h8 : numP (recB k v ++ r) = k := by unfold numP; rw [recB_take8]; exact be_dig _ 8 (Nat.lt_trans hk2 (by decide))
  have h4 : lenP (recB k v ++ r) = v.length := by unfold lenP; rw [recB_len4]; exact be_dig _ 4 hv
  refine ⟨?_, h8, recB_val k v r hv⟩
  unfold okP
  rw [h8, h4, recB_val k v r hv, recB_take12, recB_sum, List.length_append, recB_len, Bool.and_eq_true]
  exact ⟨decide_eq_true ⟨by omega, hk2, by omega⟩, decide_eq_true rfl⟩

/-- What is had again of both places; none: torn. -/
def openP (x y : List UInt8) : Option (Nat × List UInt8) :=
  if okP y = true ∧ numP y % 2 = 1 ∧ ¬ (okP x = true ∧ numP x % 2 = 0 ∧ numP y < numP x) then some (numP y, valP y)
  else if okP x = true ∧ numP x % 2 = 0 then some (numP x, valP x)
  else if x.all (· == 0) then some (0, []) else none
/-! ### A disk's two places -/
def plc (r i : Nat) (a : List UInt8) : List UInt8 := (a.drop (i * r)).take r
/-- A disk with bytes written from a place on. -/
def splice (a : List UInt8) (at_ : Nat) (s : List UInt8) : List UInt8 := a.take at_ ++ s ++ a.drop (at_ + s.length)
theorem splice_len {a s : List UInt8} {at_ : Nat} (h : at_ + s.length ≤ a.length) : (splice a at_ s).length = a.length := by
  unfold splice
  simp only [List.length_append, List.length_take, List.length_drop]; omega
theorem splice_get {a s : List UInt8} {at_ : Nat} (h : at_ + s.length ≤ a.length) (i : Nat) : (splice a at_ s)[i]? = if at_ ≤ i ∧ i < at_ + s.length then s[i - at_]? else a[i]? := by
  unfold splice
  rw [List.append_assoc, List.getElem?_append]
  simp only [List.length_take]
  by_cases h1 : i < min at_ a.length
  · rw [if_pos h1, if_neg (by omega), List.getElem?_take, if_pos (by omega)]
  · rw [if_neg h1, List.getElem?_append]
    by_cases h2 : i - min at_ a.length < s.length
    · rw [if_pos h2, if_pos (by omega)]; congr 1; omega
    · rw [if_neg h2, if_neg (by omega), List.getElem?_drop]; congr 1; omega
theorem plc_get {r i k : Nat} {a : List UInt8} (h : k < r) : (plc r i a)[k]? = a[i * r + k]? := by
  unfold plc
  rw [List.getElem?_take, if_pos h, List.getElem?_drop]
theorem plc_len {r i : Nat} {a : List UInt8} (h : i * r + r ≤ a.length) : (plc r i a).length = r := by
  unfold plc
  rw [List.length_take, List.length_drop]; omega
theorem plc_ext {r i : Nat} {a b : List UInt8} (hl : a.length = b.length) (h : ∀ k, k < r → a[i * r + k]? = b[i * r + k]?) : plc r i a = plc r i b := by
  apply List.ext_getElem?
  intro k
  by_cases hk : k < r
  · rw [plc_get hk, plc_get hk]; exact h k hk
  · unfold plc
    rw [List.getElem?_take, if_neg hk, List.getElem?_take, if_neg hk]
/-- The other place is as it was. -/
theorem plc_splice_other {r i j : Nat} {a s : List UInt8} (ha : a.length = 2 * r) (hi : i < 2) (hj : j < 2) (hij : i ≠ j) (hs : s.length ≤ r) : plc r j (splice a (i * r) s) = plc r j a := by
  have hb : i * r + s.length ≤ a.length := by rcases (show i = 0 ∨ i = 1 by omega) with rfl | rfl <;> omega
  refine plc_ext (splice_len hb) (fun k hk => ?_)
  rw [splice_get hb, if_neg]
  rcases (show (i = 0 ∧ j = 1) ∨ (i = 1 ∧ j = 0) by omega) with ⟨rfl, rfl⟩ | ⟨rfl, rfl⟩ <;> omega
/-- The place that is written. -/
theorem plc_splice_same {r i : Nat} {a s : List UInt8} (ha : a.length = 2 * r) (hi : i < 2) (hs : s.length ≤ r) : plc r i (splice a (i * r) s) = s ++ (plc r i a).drop s.length := by
  have hb : i * r + s.length ≤ a.length := by rcases (show i = 0 ∨ i = 1 by omega) with rfl | rfl <;> omega
  have hir : i * r + r ≤ a.length := by rcases (show i = 0 ∨ i = 1 by omega) with rfl | rfl <;> omega
  apply List.ext_getElem?
  intro k
  rw [List.getElem?_append, List.getElem?_drop]
  by_cases hk : k < r
  · rw [plc_get hk, splice_get hb]
    by_cases h1 : k < s.length
    · rw [if_pos (by omega), if_pos h1]; congr 1; omega
    · rw [if_neg (by omega), if_neg h1, show s.length + (k - s.length) = k from by omega, plc_get hk]
  · have h2 : (plc r i (splice a (i * r) s))[k]? = none := by unfold plc; rw [List.getElem?_take, if_neg hk]
    rw [h2, if_neg (by omega), show s.length + (k - s.length) = k from by omega]
    unfold plc
    rw [List.getElem?_take, if_neg hk]
theorem numP_zero {b : List UInt8} (h : ∀ x ∈ b, x = 0) : numP b = 0 := by
  have key : ∀ l : List UInt8, (∀ x ∈ l, x = 0) → be l = 0 := by
    intro l
    induction l with
    | nil => intro _; rfl
    | cons x l ih =>
      intro hl
      rw [be, ih (fun y hy => hl y (List.mem_cons_of_mem _ hy)), hl x (List.mem_cons_self ..)]; simp
  exact key _ (fun x hx => h x (List.mem_of_mem_take hx))
theorem okP_zero {b : List UInt8} (h : numP b = 0) : okP b = false := by unfold okP; simp [h]

/-- A disk on which v was kept as the n-th value. -/
def DiskOf (r n : Nat) (v a : List UInt8) : Prop :=
  a.length = 2 * r ∧ ((n = 0 ∧ v = [] ∧ ∀ x ∈ a, x = 0) ∨ (0 < n ∧ (∃ rest, plc r (n % 2) a = recB n v ++ rest) ∧ numP (plc r ((n + 1) % 2) a) < n))
theorem openP_disk {r n : Nat} {v a : List UInt8} (h : DiskOf r n v a) (hn : n < 281474976710656) (hv : v.length < 4294967296) : openP (plc r 0 a) (plc r 1 a) = some (n, v) := by
  obtain ⟨ha, ⟨rfl, rfl, hz⟩ | ⟨h0, ⟨rest, hp⟩, hq⟩⟩ := h
  · have hz' : ∀ i, ∀ x ∈ plc r i a, x = 0 := fun i x hx => hz x (List.mem_of_mem_drop (List.mem_of_mem_take hx))
    have n0 := okP_zero (numP_zero (hz' 0))
    have n1 := okP_zero (numP_zero (hz' 1))
    unfold openP
    rw [n0, n1]
    simp only [Bool.false_eq_true, false_and, if_false]
    rw [if_pos]
    rw [List.all_eq_true]
    intro x hx
    rw [hz' 0 x hx]; rfl
  · obtain ⟨k1, k2, k3⟩ := recB_ok n v rest h0 hn hv
    rw [← hp] at k1 k2 k3
    unfold openP
    rcases (show n % 2 = 1 ∨ n % 2 = 0 by omega) with h2 | h2
    · rw [h2] at k1 k2 k3
      rw [show (n + 1) % 2 = 0 from by omega] at hq
      rw [if_pos ⟨k1, by rw [k2]; exact h2, by rw [k2]; omega⟩, k2, k3]
    · rw [h2] at k1 k2 k3
      rw [show (n + 1) % 2 = 1 from by omega] at hq
      rw [if_neg (fun hh => hh.2.2 ⟨k1, by rw [k2]; exact h2, by rw [k2]; exact hq⟩), if_pos ⟨k1, by rw [k2]; exact h2⟩, k2, k3]
theorem disk_keep {r n : Nat} {v a u : List UInt8} (h : DiskOf r n v a) (hn : n < 281474976710656) (hu : 44 + u.length ≤ r) : DiskOf r (n + 1) u (splice a ((n + 1) % 2 * r) (recB (n + 1) u)) := by
  have hl := recB_len (n + 1) u
  have ha := h.1
  have hb : (n + 1) % 2 * r + (recB (n + 1) u).length ≤ a.length := by
    rcases (show (n + 1) % 2 = 0 ∨ (n + 1) % 2 = 1 by omega) with e | e <;> rw [e] <;> omega
  refine ⟨by rw [splice_len hb]; exact ha, .inr ⟨by omega, ⟨_, plc_splice_same ha (by omega) (by omega)⟩, ?_⟩⟩
  rw [plc_splice_other ha (by omega) (by omega) (by omega) (by omega), show (n + 1 + 1) % 2 = n % 2 from by omega]
  rcases h.2 with ⟨rfl, _, hz⟩ | ⟨h0, ⟨rest, hp⟩, _⟩
  · have hzero : numP (plc r (0 % 2) a) = 0 := numP_zero (fun x hx => hz x (List.mem_of_mem_drop (List.mem_of_mem_take hx)))
    rw [hzero]; omega
  · rw [hp]
    unfold numP
    rw [recB_take8, be_dig _ 8 (Nat.lt_trans hn (by decide))]; omega
end Go.Proofs.Ytmolpgnekcfimaa.S
