/- Primes, Fermat, how great numbers are seen to be prime. Plain Lean: no walk in this text. -/
namespace Go.Proofs.YtfjedhmffccgnaaGreatDoor.Nt
def Pr (p : Nat) : Prop := 2 ≤ p ∧ ∀ m, m ∣ p → m = 1 ∨ m = p
def sq (N x : Nat) : Nat := x * x % N
def sa (N a x : Nat) : Nat := x * x % N * a % N
def pw (N a : Nat) : Nat → Nat → Nat
  | 0, _ => 1 % N
  | f + 1, e => if e % 2 = 1 then sa N a (pw N a f (e / 2)) else sq N (pw N a f (e / 2))
theorem pw_eq (N a : Nat) : ∀ f e, e < 2 ^ f → pw N a f e = a ^ e % N := by
  intro f
  induction f with
  | zero => intro e h; have : e = 0 := by simpa using h
            subst this; rfl
  | succ f ih =>
    intro e h
    have h' : e / 2 < 2 ^ f := by rw [Nat.pow_succ] at h; omega
    have hs : ∀ x, a ^ x % N * (a ^ x % N) % N = a ^ (x + x) % N := fun x => by rw [← Nat.mul_mod, ← Nat.pow_add]
    unfold pw; split
    · rw [ih _ h']; unfold sa; rw [hs, Nat.mod_mul_mod, ← Nat.pow_succ]; congr 2; omega
    · rw [ih _ h']; unfold sq; rw [hs]; congr 2; omega
theorem Pr.euclid {p a b : Nat} (hp : Pr p) (h : p ∣ a * b) : p ∣ a ∨ p ∣ b := by
 rcases hp.2 (Nat.gcd p a) (Nat.gcd_dvd_left p a) with e | e
 · exact .inr (Nat.Coprime.dvd_of_dvd_mul_left (k := p) (m := a) (n := b) e h)
 · exact .inl (e ▸ Nat.gcd_dvd_right p a)
theorem Pr.not_one {p : Nat} (hp : Pr p) : ¬ p ∣ 1 := fun h => by have := hp.1; have := Nat.le_of_dvd (by omega) h; omega
theorem perm_of_sub : ∀ (l' l : List Nat), l'.Nodup → (∀ x ∈ l', x ∈ l) → l.length ≤ l'.length → l'.Perm l
 | [], l, _, _, h => by cases l with | nil => exact .nil | cons _ _ => simp at h
 | x :: t, l, hn, hs, h => by
  have hx := hs x (List.mem_cons_self ..)
  have hn' := List.nodup_cons.1 hn
  have := perm_of_sub t (l.erase x) hn'.2 (fun y hy => (List.mem_erase_of_ne (fun e : y = x => hn'.1 (e ▸ hy))).2 (hs y (List.mem_cons_of_mem _ hy)))
   (by rw [List.length_erase_of_mem hx]; simp at h; omega)
  exact (List.Perm.cons x this).trans (List.perm_cons_erase hx).symm
def prod : List Nat → Nat
  | [] => 1
  | x :: l => x * prod l
theorem prod_perm {l l' : List Nat} (h : l.Perm l') : prod l = prod l' := by
 induction h with
 | nil => rfl
 | cons x _ ih => show x * _ = x * _; rw [ih]
 | swap x y l => show y * (x * _) = x * (y * _); rw [Nat.mul_left_comm]
 | trans _ _ a b => exact a.trans b
theorem prod_map (p a : Nat) : ∀ l, prod (l.map fun x => a * x % p) % p = a ^ l.length * prod l % p
 | [] => by simp [prod]
 | x :: l => by
  show a * x % p * prod (l.map fun x => a * x % p) % p = a ^ (l.length + 1) * (x * prod l) % p
  rw [Nat.mod_mul_mod, Nat.mul_mod, prod_map p a l, ← Nat.mul_mod, Nat.pow_succ]
  congr 1
  rw [Nat.mul_mul_mul_comm, Nat.mul_comm a (a ^ _)]
theorem Pr.prod {p : Nat} (hp : Pr p) : ∀ l : List Nat, (∀ x ∈ l, ¬ p ∣ x) → ¬ p ∣ prod l
 | [], _, h => hp.not_one h
 | x :: l, hs, h => by
  rcases hp.euclid (a := x) (b := Nt.prod l) h with h | h
  · exact hs x (List.mem_cons_self ..) h
  · exact hp.prod l (fun y hy => hs y (List.mem_cons_of_mem _ hy)) h
theorem Pr.cancel {p a x y : Nat} (hp : Pr p) (ha : ¬ p ∣ a) (h : a * x % p = a * y % p) : (y - x) % p = 0 := by
 have : p ∣ a * y - a * x := (Nat.dvd_iff_mod_eq_zero ..).2 (Nat.sub_mod_eq_zero_of_mod_eq h.symm)
 rw [← Nat.mul_sub] at this
 rcases hp.euclid this with h | h
 · exact absurd h ha
 · exact Nat.mod_eq_zero_of_dvd h
theorem Pr.inj {p a x y : Nat} (hp : Pr p) (ha : ¬ p ∣ a) (hx : x < p) (hy : y < p) (h : a * x % p = a * y % p) : x = y := by
 rcases Nat.le_total x y with l | l
 · have := hp.cancel ha h; rw [Nat.mod_eq_of_lt (by omega)] at this; omega
 · have := hp.cancel ha h.symm; rw [Nat.mod_eq_of_lt (by omega)] at this; omega
theorem nodup_map {f : Nat → Nat} : ∀ l : List Nat, l.Nodup → (∀ x ∈ l, ∀ y ∈ l, f x = f y → x = y) → (l.map f).Nodup
 | [], _, _ => List.nodup_nil
 | x :: l, hn, hf => by
  have h := List.nodup_cons.1 hn
  refine List.nodup_cons.2 ⟨fun m => ?_, nodup_map l h.2 fun a ha b hb => hf a (List.mem_cons_of_mem _ ha) b (List.mem_cons_of_mem _ hb)⟩
  obtain ⟨y, hy, e⟩ := List.mem_map.1 m
  exact h.1 (hf y (List.mem_cons_of_mem _ hy) x (List.mem_cons_self ..) e ▸ hy)
theorem Pr.fermat {p a : Nat} (hp : Pr p) (ha : ¬ p ∣ a) : a ^ (p - 1) % p = 1 := by
 have h2 := hp.1
 have hl : ∀ x ∈ List.range' 1 (p - 1), 1 ≤ x ∧ x < p := fun x hx => by have := List.mem_range'_1.1 hx; omega
 have hnd : ∀ x, 1 ≤ x → x < p → ¬ p ∣ x := fun x h1 h2 h => by have := Nat.le_of_dvd (by omega) h; omega
 have P : ((List.range' 1 (p - 1)).map fun x => a * x % p).Perm (List.range' 1 (p - 1)) := by
  refine perm_of_sub _ _ (nodup_map _ (List.nodup_range' ..) fun x hx y hy e => hp.inj ha (hl x hx).2 (hl y hy).2 e) (fun y hy => ?_) (by simp)
  obtain ⟨x, hx, rfl⟩ := List.mem_map.1 hy
  have l := Nat.mod_lt (a * x) (show p > 0 by omega)
  have n : a * x % p ≠ 0 := fun e => by
   rcases hp.euclid (Nat.dvd_of_mod_eq_zero e) with h | h
   · exact ha h
   · exact hnd x (hl x hx).1 (hl x hx).2 h
  exact List.mem_range'_1.2 (by omega)
 have e := prod_map p a (List.range' 1 (p - 1))
 rw [prod_perm P, List.length_range'] at e
 have hn : ¬ p ∣ Nt.prod (List.range' 1 (p - 1)) := hp.prod _ fun x hx => hnd x (hl x hx).1 (hl x hx).2
 generalize Nt.prod (List.range' 1 (p - 1)) = c at *
 have := hp.inj (x := a ^ (p - 1) % p) (y := 1) hn (Nat.mod_lt _ (by omega)) (by omega) (by
  rw [Nat.mul_mod_mod, Nat.mul_one, Nat.mul_comm, ← e])
 exact this
theorem one_gcd (b r : Nat) (hr : 2 ≤ r) : ∀ m n, b ^ m % r = 1 → b ^ n % r = 1 → b ^ (Nat.gcd m n) % r = 1 := by
 intro m n
 induction m, n using Nat.gcd.induction with
 | H0 n => intro _ h; rwa [Nat.gcd_zero_left]
 | H1 m n hm ih =>
  intro h1 h2
  rw [Nat.gcd_rec]
  refine ih ?_ h1
  rw [← Nat.div_add_mod n m, Nat.pow_add, Nat.pow_mul, Nat.mul_mod, Nat.pow_mod, h1, Nat.one_pow, Nat.mod_eq_of_lt (show 1 < r by omega), Nat.one_mul, Nat.mod_mod] at h2
  exact h2
theorem least : ∀ n, 2 ≤ n → ∃ r, Pr r ∧ r ∣ n := by
 intro n
 induction n using Nat.strongRecOn with
 | _ n ih =>
  intro h
  by_cases c : Pr n
  · exact ⟨n, c, Nat.dvd_refl n⟩
  ·
   have : ∃ m, m ∣ n ∧ ¬ (m = 1 ∨ m = n) := Classical.byContradiction fun k => c ⟨h, fun m hm => Classical.byContradiction fun l => k ⟨m, hm, l⟩⟩
   obtain ⟨m, hm, hn⟩ := this
   have h0 : m ≠ 0 := fun e => by subst e; have := Nat.eq_zero_of_zero_dvd hm; omega
   have := Nat.le_of_dvd (by omega) hm
   obtain ⟨r, hr, hd⟩ := ih m (by omega) (by omega)
   exact ⟨r, hr, Nat.dvd_trans hd hm⟩
theorem small_factor {n : Nat} (h : 2 ≤ n) (c : ¬ Pr n) : ∃ r, Pr r ∧ r ∣ n ∧ r * r ≤ n := by
 have : ∃ m, m ∣ n ∧ ¬ (m = 1 ∨ m = n) := Classical.byContradiction fun k => c ⟨h, fun m hm => Classical.byContradiction fun l => k ⟨m, hm, l⟩⟩
 obtain ⟨m, ⟨k, e⟩, hn⟩ := this
 have h0 : m ≠ 0 := fun z => by subst z; simp at e; omega
 have k0 : k ≠ 0 := fun z => by subst z; simp at e; omega
 have k1 : k ≠ 1 := fun z => by subst z; simp at e; omega
 rcases Nat.le_total m k with l | l
 ·
  obtain ⟨r, hr, hd⟩ := least m (by omega)
  have := Nat.le_of_dvd (by omega) hd
  exact ⟨r, hr, e ▸ Nat.dvd_trans hd (Nat.dvd_mul_right ..), by rw [e]; exact Nat.mul_le_mul this (by omega)⟩
 ·
  obtain ⟨r, hr, hd⟩ := least k (by omega)
  have := Nat.le_of_dvd (by omega) hd
  exact ⟨r, hr, e ▸ Nat.dvd_trans hd (Nat.dvd_mul_left ..), by rw [e]; exact Nat.mul_le_mul (by omega) this⟩
def nod (n : Nat) : Nat → Bool
  | 0 => true
  | k + 1 => (decide (k < 1) || decide (n % (k + 1) ≠ 0)) && nod n k
theorem nod_spec (n : Nat) : ∀ k, nod n k = true → ∀ m, 2 ≤ m → m ≤ k → ¬ m ∣ n
 | 0, _, m, h2, hk, _ => by omega
 | k + 1, h, m, h2, hk, hd => by
  unfold nod at h; simp only [Bool.and_eq_true, Bool.or_eq_true, decide_eq_true_eq] at h
  rcases Nat.lt_or_ge m (k + 1) with l | l
  · exact nod_spec n k h.2 m h2 (by omega) hd
  ·
   have : m = k + 1 := by omega
   subst this
   rcases h.1 with h | h
   · omega
   · exact h (Nat.mod_eq_zero_of_dvd hd)
theorem Pr.small {n k : Nat} (h2 : 2 ≤ n) (hk : n < (k + 1) * (k + 1)) (h : nod n k = true) : Pr n := by
 refine Classical.byContradiction fun c => ?_
 obtain ⟨r, hr, hd, hl⟩ := small_factor h2 c
 have : r ≤ k := by
  rcases Nat.lt_or_ge k r with l | l
  ·
   have : (k + 1) * (k + 1) ≤ r * r := Nat.mul_le_mul l l
   omega
  · exact l
 exact nod_spec n k h r hr.1 this hd
theorem poc_dvd {N r q m a : Nat} (hq : Pr q) (hr : Pr r) (hd : r ∣ N) (hN : N = q * m + 1) (h1 : a ^ (q * m) % N = 1) (hg : Nat.gcd (a ^ m % N + (N - 1)) N = 1) : q ∣ r - 1 := by
 have r2 := hr.1
 have hN0 : 0 < N := by omega
 have red : ∀ x, x % N % r = x % r := fun x => Nat.mod_mod_of_dvd x hd
 have a1 : (a ^ m) ^ q % r = 1 := by
  rw [← Nat.pow_mul, Nat.mul_comm m q, ← red, h1, Nat.mod_eq_of_lt (by omega)]
 have nb : ¬ r ∣ a ^ m := fun h => by
  have : (a ^ m) ^ q % r = 0 := Nat.mod_eq_zero_of_dvd (Nat.dvd_trans h (by
   have := hq.1
   obtain ⟨k, rfl⟩ : ∃ k, q = k + 1 := ⟨q - 1, by omega⟩
   rw [Nat.pow_succ]; exact Nat.dvd_mul_left ..))
  omega
 have n1 : a ^ m % r ≠ 1 := fun h => by
  have : r ∣ a ^ m % N + (N - 1) := by
   obtain ⟨c, hc⟩ := hd
   have e : (a ^ m % N + (N - 1)) % r = 0 := by
    rw [Nat.add_mod, red, h]
    have c0 : c ≠ 0 := fun z => by subst z; simp at hc; omega
    obtain ⟨c', rfl⟩ : ∃ c', c = c' + 1 := ⟨c - 1, by omega⟩
    have : N - 1 = r * c' + (r - 1) := by rw [hc, Nat.mul_succ]; omega
    rw [this, Nat.mul_add_mod, Nat.mod_eq_of_lt (show r - 1 < r by omega), show 1 + (r - 1) = r by omega, Nat.mod_self]
   exact Nat.dvd_of_mod_eq_zero e
  have := Nat.dvd_gcd this hd
  rw [hg] at this; exact hr.not_one this
 have a2 := hr.fermat nb
 have a3 := one_gcd _ r r2 _ _ a1 a2
 rcases hq.2 _ (Nat.gcd_dvd_left q (r - 1)) with e | e
 · rw [e, Nat.pow_one] at a3; exact absurd a3 n1
 · exact e ▸ Nat.gcd_dvd_right q (r - 1)
def chk (N q m a f : Nat) : Bool := Nat.beq N (q * m + 1) && Nat.blt (q * m) (2 ^ f) && Nat.beq (pw N a f (q * m)) 1 && Nat.beq (Nat.gcd (pw N a f m + (N - 1)) N) 1
theorem chk_spec {N q m a f r : Nat} (h : chk N q m a f = true) (h2 : 2 ≤ q) (hq : Pr q) (hr : Pr r) (hd : r ∣ N) : q ∣ r - 1 := by
 unfold chk at h
 simp only [Bool.and_eq_true, Nat.blt_eq] at h
 obtain ⟨⟨⟨a1, a2⟩, a3⟩, a4⟩ := h
 replace a1 := Nat.eq_of_beq_eq_true a1; replace a3 := Nat.eq_of_beq_eq_true a3; replace a4 := Nat.eq_of_beq_eq_true a4
 have : m ≤ q * m := Nat.le_mul_of_pos_left m (by omega)
 rw [pw_eq _ _ _ _ a2] at a3
 rw [pw_eq _ _ _ _ (by omega)] at a4
 exact poc_dvd hq hr hd a1 a3 a4
theorem Pr.poc1 {N q : Nat} (hq : Pr q) (m a f : Nat) (h : chk N q m a f = true) (hs : Nat.blt N ((q + 1) * (q + 1)) = true) (h2 : Nat.ble 2 N = true) : Pr N := by
 simp only [Nat.blt_eq, Nat.ble_eq] at hs h2
 refine Classical.byContradiction fun c => ?_
 obtain ⟨r, hr, hd, hl⟩ := small_factor h2 c
 have := Nat.le_of_dvd (by have := hr.1; omega) (chk_spec h hq.1 hq hr hd)
 have : (q + 1) * (q + 1) ≤ r * r := Nat.mul_le_mul (by have := hr.1; omega) (by have := hr.1; omega)
 omega
theorem Pr.poc2 {N q q' : Nat} (hq : Pr q) (hq' : Pr q') (m a m' a' f : Nat) (h : chk N q m a f = true) (h' : chk N q' m' a' f = true)
 (hs : Nat.blt N ((q * q' + 1) * (q * q' + 1)) = true) (h2 : Nat.ble 2 N = true) (hg : Nat.gcd q q' = 1) : Pr N := by
 simp only [Nat.blt_eq, Nat.ble_eq] at hs h2
 refine Classical.byContradiction fun c => ?_
 obtain ⟨r, hr, hd, hl⟩ := small_factor h2 c
 have := Nat.le_of_dvd (by have := hr.1; omega) (Nat.Coprime.mul_dvd_of_dvd_of_dvd hg (chk_spec h hq.1 hq hr hd) (chk_spec h' hq'.1 hq' hr hd))
 have : (q * q' + 1) * (q * q' + 1) ≤ r * r := Nat.mul_le_mul (by have := hr.1; omega) (by have := hr.1; omega)
 omega
theorem pr_8574133 : Pr 8574133 := Pr.small (k := 2928) (by decide +kernel) (by decide +kernel) (by decide +kernel)
theorem pr_127 : Pr 127 := Pr.small (k := 11) (by decide +kernel) (by decide +kernel) (by decide +kernel)
theorem pr_1919519569386763 : Pr 1919519569386763 := Pr.poc2 pr_8574133 pr_127 223873314 2 15114327318006 2 51 (by decide +kernel) (by decide +kernel) (by decide +kernel) (by decide +kernel) (by decide +kernel)
theorem pr_75707 : Pr 75707 := Pr.small (k := 275) (by decide +kernel) (by decide +kernel) (by decide +kernel)
theorem pr_75445702479781427272750846543864801 : Pr 75445702479781427272750846543864801 := Pr.poc2 pr_1919519569386763 pr_75707 39304471641247389600 2 996548568557483816196003626400 2 116 (by decide +kernel) (by decide +kernel) (by decide +kernel) (by decide +kernel) (by decide +kernel)
theorem pr_57467 : Pr 57467 := Pr.small (k := 239) (by decide +kernel) (by decide +kernel) (by decide +kernel)
theorem pr_74058212732561358302231226437062788676166966415465897661863160754340907 : Pr 74058212732561358302231226437062788676166966415465897661863160754340907 := Pr.poc2 pr_75445702479781427272750846543864801 pr_57467 981609426360740691344999861639072106 2 1288708523719027586305727224964984924846728842909250485702458119518 2 236 (by decide +kernel) (by decide +kernel) (by decide +kernel) (by decide +kernel) (by decide +kernel)
theorem pr_57896044618658097711785492504343953926634992332820282019728792003956564819949 : Pr 57896044618658097711785492504343953926634992332820282019728792003956564819949 := Pr.poc1 pr_74058212732561358302231226437062788676166966415465897661863160754340907 781764 2 255 (by decide +kernel) (by decide +kernel) (by decide +kernel)
theorem pr_1224481 : Pr 1224481 := Pr.small (k := 1106) (by decide +kernel) (by decide +kernel) (by decide +kernel)
theorem pr_531581 : Pr 531581 := Pr.small (k := 729) (by decide +kernel) (by decide +kernel) (by decide +kernel)
theorem pr_1257559732178653 : Pr 1257559732178653 := Pr.poc2 pr_1224481 pr_531581 1027014492 2 2365697292 2 51 (by decide +kernel) (by decide +kernel) (by decide +kernel) (by decide +kernel) (by decide +kernel)
theorem pr_4434155615661930479 : Pr 4434155615661930479 := Pr.poc1 pr_1257559732178653 3526 2 62 (by decide +kernel) (by decide +kernel) (by decide +kernel)
theorem pr_172054593956031949258510691 : Pr 172054593956031949258510691 := Pr.poc1 pr_4434155615661930479 38802110 2 88 (by decide +kernel) (by decide +kernel) (by decide +kernel)
theorem pr_19757330305831588566944191468367130476339 : Pr 19757330305831588566944191468367130476339 := Pr.poc1 pr_172054593956031949258510691 114831751082918 2 134 (by decide +kernel) (by decide +kernel) (by decide +kernel)
theorem pr_276602624281642239937218680557139826668747 : Pr 276602624281642239937218680557139826668747 := Pr.poc1 pr_19757330305831588566944191468367130476339 14 2 138 (by decide +kernel) (by decide +kernel) (by decide +kernel)
theorem pr_7237005577332262213973186563042994240857116359379907606001950938285454250989 : Pr 7237005577332262213973186563042994240857116359379907606001950938285454250989 := Pr.poc1 pr_276602624281642239937218680557139826668747 26163907866482859529727157400808004 2 253 (by decide +kernel) (by decide +kernel) (by decide +kernel)
end Go.Proofs.YtfjedhmffccgnaaGreatDoor.Nt
open Lean.Grind
namespace Go.Proofs.YtfjedhmffccgnaaGreatDoor.Ed
variable {F : Type} [Field F]
theorem mul_ne {a b : F} (ha : a ≠ 0) (hb : b ≠ 0) : a * b ≠ 0 := by grind
def On (d x y : F) : Prop := y * y - x * x = 1 + d * x * x * y * y
theorem assocx {d x1 y1 x2 y2 x3 y3 : F} (e1 : On d x1 y1) (e2 : On d x2 y2) (e3 : On d x3 y3) :
 ((x1 * y2 + y1 * x2) * (1 - d * x1 * x2 * y1 * y2) * y3 + (y1 * y2 + x1 * x2) * (1 + d * x1 * x2 * y1 * y2) * x3) *
  ((1 + d * x2 * x3 * y2 * y3) * (1 - d * x2 * x3 * y2 * y3) + d * (x2 * y3 + y2 * x3) * (y2 * y3 + x2 * x3) * x1 * y1)
 = (x1 * (y2 * y3 + x2 * x3) * (1 + d * x2 * x3 * y2 * y3) + y1 * (x2 * y3 + y2 * x3) * (1 - d * x2 * x3 * y2 * y3)) *
  ((1 + d * x1 * x2 * y1 * y2) * (1 - d * x1 * x2 * y1 * y2) + d * (x1 * y2 + y1 * x2) * (y1 * y2 + x1 * x2) * x3 * y3) := by
 unfold On at e1 e2 e3
 grind
theorem assocy {d x1 y1 x2 y2 x3 y3 : F} (e1 : On d x1 y1) (e2 : On d x2 y2) (e3 : On d x3 y3) :
 ((y1 * y2 + x1 * x2) * (1 + d * x1 * x2 * y1 * y2) * y3 + (x1 * y2 + y1 * x2) * (1 - d * x1 * x2 * y1 * y2) * x3) *
  ((1 + d * x2 * x3 * y2 * y3) * (1 - d * x2 * x3 * y2 * y3) - d * (x2 * y3 + y2 * x3) * (y2 * y3 + x2 * x3) * x1 * y1)
 = (y1 * (y2 * y3 + x2 * x3) * (1 + d * x2 * x3 * y2 * y3) + x1 * (x2 * y3 + y2 * x3) * (1 - d * x2 * x3 * y2 * y3)) *
  ((1 + d * x1 * x2 * y1 * y2) * (1 - d * x1 * x2 * y1 * y2) - d * (x1 * y2 + y1 * x2) * (y1 * y2 + x1 * x2) * x3 * y3) := by
 unfold On at e1 e2 e3
 grind
theorem clos {d x1 y1 x2 y2 : F} (e1 : On d x1 y1) (e2 : On d x2 y2) :
 (y1 * y2 + x1 * x2) * (y1 * y2 + x1 * x2) * ((1 + d * x1 * x2 * y1 * y2) * (1 + d * x1 * x2 * y1 * y2))
  - (x1 * y2 + y1 * x2) * (x1 * y2 + y1 * x2) * ((1 - d * x1 * x2 * y1 * y2) * (1 - d * x1 * x2 * y1 * y2))
 = (1 + d * x1 * x2 * y1 * y2) * (1 + d * x1 * x2 * y1 * y2) * ((1 - d * x1 * x2 * y1 * y2) * (1 - d * x1 * x2 * y1 * y2))
  + d * (x1 * y2 + y1 * x2) * (x1 * y2 + y1 * x2) * (y1 * y2 + x1 * x2) * (y1 * y2 + x1 * x2) := by
 unfold On at e1 e2
 grind
structure Crv (F : Type) [Field F] where
  d : F
  i : F
  hi : i * i = -1
  hd : ∀ s, s * s ≠ d
  h2 : (2 : F) ≠ 0
theorem den_aux (C : Crv F) {x1 y1 x2 y2 : F} (e1 : On C.d x1 y1) (e2 : On C.d x2 y2) (j : F) (hj : j * j = -1) (e : F) (he : e * e = 1)
 (h : C.d * x1 * x2 * y1 * y2 = e) : j * x2 + y2 = 0 := by
 have hd := C.hd; have h2 := C.h2
 refine Classical.byContradiction fun hn => ?_
 have a : (j * x1 + e * y1) * (j * x1 + e * y1) = C.d * (x1 * y1 * (j * x2 + y2)) * (x1 * y1 * (j * x2 + y2)) := by
  unfold On at e1 e2
  clear hd hn h2
  have l : (j * x1 + e * y1) * (j * x1 + e * y1) = (j * j) * (x1 * x1) + (e * e) * (y1 * y1) + 2 * e * j * x1 * y1 := by clear e1 e2 hj he h; grind
  have r : C.d * (x1 * y1 * (j * x2 + y2)) * (x1 * y1 * (j * x2 + y2)) = C.d * x1 * x1 * y1 * y1 * ((j * j) * (x2 * x2) + y2 * y2) + 2 * (C.d * x1 * x2 * y1 * y2) * j * x1 * y1 := by clear l e1 e2 hj he h; grind
  have k : (C.d * x1 * x1 * y1 * y1) * (C.d * x2 * x2 * y2 * y2) = (C.d * x1 * x2 * y1 * y2) * (C.d * x1 * x2 * y1 * y2) := by clear l r e1 e2 hj he h; grind
  rw [l, r, hj, he, h]
  rw [h, he] at k
  have e2' : -1 * (x2 * x2) + y2 * y2 = 1 + C.d * x2 * x2 * y2 * y2 := by clear l r e1 hj he h k; grind
  rw [e2']
  generalize C.d * x1 * x1 * y1 * y1 = u at *
  generalize C.d * x2 * x2 * y2 * y2 = v at *
  clear l r hj he h e2 e2'
  grind
 have n1 : x1 ≠ 0 := by intro z; subst z; grind
 have n2 : y1 ≠ 0 := by intro z; subst z; grind
 have n3 : x1 * y1 * (j * x2 + y2) ≠ 0 := mul_ne (mul_ne n1 n2) hn
 generalize x1 * y1 * (j * x2 + y2) = w at *
 generalize j * x1 + e * y1 = v at *
 exact hd (v * w⁻¹) (by grind)
theorem den (C : Crv F) {x1 y1 x2 y2 : F} (e1 : On C.d x1 y1) (e2 : On C.d x2 y2) (e : F) (he : e * e = 1) : C.d * x1 * x2 * y1 * y2 ≠ e := by
 intro h
 have a := den_aux C e1 e2 C.i C.hi e he h
 have b := den_aux C e1 e2 (-C.i) (by have := C.hi; grind) e he h
 have h2 := C.h2
 have : y2 = 0 := by grind
 subst this
 grind
theorem den1 (C : Crv F) {x1 y1 x2 y2 : F} (e1 : On C.d x1 y1) (e2 : On C.d x2 y2) : 1 + C.d * x1 * x2 * y1 * y2 ≠ 0 := by
 have := den C e1 e2 (-1) (by grind)
 grind
theorem den2 (C : Crv F) {x1 y1 x2 y2 : F} (e1 : On C.d x1 y1) (e2 : On C.d x2 y2) : 1 - C.d * x1 * x2 * y1 * y2 ≠ 0 := by
 have := den C e1 e2 1 (by grind)
 grind
structure Pt (C : Crv F) where
  x : F
  y : F
  on : On C.d x y
theorem Pt.ext' {C : Crv F} {P Q : Pt C} (hx : P.x = Q.x) (hy : P.y = Q.y) : P = Q := by
 cases P; cases Q; simp at hx hy; subst hx hy; rfl
def Pt.zero (C : Crv F) : Pt C := ⟨0, 1, by unfold On; grind⟩
def Pt.neg {C : Crv F} (P : Pt C) : Pt C := ⟨-P.x, P.y, by have := P.on; unfold On at *; grind⟩
theorem on_div {d n m a b : F} (ha : a ≠ 0) (hb : b ≠ 0) (h : m * m * (a * a) - n * n * (b * b) = a * a * (b * b) + d * n * n * m * m) : On d (n * a⁻¹) (m * b⁻¹) := by
 unfold On
 have ia : a * a⁻¹ = 1 := Field.mul_inv_cancel ha
 have ib : b * b⁻¹ = 1 := Field.mul_inv_cancel hb
 generalize a⁻¹ = a' at *; generalize b⁻¹ = b' at *
 have : (m * m * (a * a) - n * n * (b * b)) * (a' * a' * (b' * b')) = (a * a * (b * b) + d * n * n * m * m) * (a' * a' * (b' * b')) := by rw [h]
 grind
def Pt.add {C : Crv F} (P Q : Pt C) : Pt C :=
  ⟨(P.x * Q.y + P.y * Q.x) * (1 + C.d * P.x * Q.x * P.y * Q.y)⁻¹, (P.y * Q.y + P.x * Q.x) * (1 - C.d * P.x * Q.x * P.y * Q.y)⁻¹,
    on_div (den1 C P.on Q.on) (den2 C P.on Q.on) (by have := clos P.on Q.on; grind)⟩
theorem Pt.add_comm {C : Crv F} (P Q : Pt C) : P.add Q = Q.add P := by
 have e : C.d * Q.x * P.x * Q.y * P.y = C.d * P.x * Q.x * P.y * Q.y := by grind
 refine Pt.ext' ?_ ?_ <;> show _ * _ = _ * _ <;> rw [e] <;> congr 1 <;> grind
theorem Pt.zero_add {C : Crv F} (P : Pt C) : (Pt.zero C).add P = P := by
 refine Pt.ext' ?_ ?_ <;> simp only [Pt.add, Pt.zero] <;> grind
theorem Pt.add_zero {C : Crv F} (P : Pt C) : P.add (Pt.zero C) = P := by rw [Pt.add_comm, Pt.zero_add]
theorem Pt.neg_add {C : Crv F} (P : Pt C) : P.neg.add P = Pt.zero C := by
 have h := P.on
 have := den2 C P.neg.on P.on
 refine Pt.ext' ?_ ?_
 ·
  show (-P.x * P.y + P.y * P.x) * _ = 0
  have : -P.x * P.y + P.y * P.x = 0 := by grind
  rw [this]; grind
 ·
  show (P.y * P.y + -P.x * P.x) * (1 - C.d * -P.x * P.x * P.y * P.y)⁻¹ = 1
  have : P.y * P.y + -P.x * P.x = 1 - C.d * -P.x * P.x * P.y * P.y := by unfold On at h; grind
  rw [this]; exact Field.mul_inv_cancel (by assumption)
theorem quot {a b x y A B : F} (ha : a ≠ 0) (hb : b ≠ 0) (hx : x * a = A) (hy : y * b = B) (h : A * b = B * a) : x = y := by
 have n := mul_ne ha hb
 have : (x - y) * (a * b) = 0 := by subst hx hy; grind
 have : x - y = 0 := by grind
 grind
theorem frac {n D m E x y d : F} {X Y : F} (hD : D ≠ 0) (hE : E ≠ 0) (hX : X = n * D⁻¹) (hY : Y = m * E⁻¹) (h : 1 + d * X * x * Y * y ≠ 0) :
 D * E + d * n * m * x * y ≠ 0 ∧ (X * y + Y * x) * (1 + d * X * x * Y * y)⁻¹ * (D * E + d * n * m * x * y) = n * E * y + m * D * x := by
 have hn : n = X * D := by subst hX; have := Field.mul_inv_cancel hD; grind
 have hm : m = Y * E := by subst hY; have := Field.mul_inv_cancel hE; grind
 have e : D * E + d * n * m * x * y = (1 + d * X * x * Y * y) * (D * E) := by subst hn hm; grind
 refine ⟨e ▸ mul_ne h (mul_ne hD hE), ?_⟩
 have i := Field.mul_inv_cancel h
 rw [e, hn, hm]
 generalize (1 + d * X * x * Y * y)⁻¹ = w at *
 generalize 1 + d * X * x * Y * y = z at *
 grind
theorem frac2 {n D m E x y d : F} {X Y : F} (hD : D ≠ 0) (hE : E ≠ 0) (hX : X = n * D⁻¹) (hY : Y = m * E⁻¹) (h : 1 - d * X * x * Y * y ≠ 0) :
 D * E - d * n * m * x * y ≠ 0 ∧ (Y * y + X * x) * (1 - d * X * x * Y * y)⁻¹ * (D * E - d * n * m * x * y) = m * D * y + n * E * x := by
 have hn : n = X * D := by subst hX; have := Field.mul_inv_cancel hD; grind
 have hm : m = Y * E := by subst hY; have := Field.mul_inv_cancel hE; grind
 have e : D * E - d * n * m * x * y = (1 - d * X * x * Y * y) * (D * E) := by subst hn hm; grind
 refine ⟨e ▸ mul_ne h (mul_ne hD hE), ?_⟩
 have i := Field.mul_inv_cancel h
 rw [e, hn, hm]
 generalize (1 - d * X * x * Y * y)⁻¹ = w at *
 generalize 1 - d * X * x * Y * y = z at *
 grind
theorem Pt.add_assoc {C : Crv F} (P Q R : Pt C) : (P.add Q).add R = P.add (Q.add R) := by
 rw [Pt.add_comm P (Q.add R)]
 have a1 := den1 C P.on Q.on; have a2 := den2 C P.on Q.on
 have b1 := den1 C Q.on R.on; have b2 := den2 C Q.on R.on
 have f1 := frac (x := R.x) (y := R.y) (d := C.d) a1 a2 (X := (P.add Q).x) (Y := (P.add Q).y) rfl rfl (den1 C (P.add Q).on R.on)
 have g1 := frac (x := P.x) (y := P.y) (d := C.d) b1 b2 (X := (Q.add R).x) (Y := (Q.add R).y) rfl rfl (den1 C (Q.add R).on P.on)
 have f2 := frac2 (x := R.x) (y := R.y) (d := C.d) a1 a2 (X := (P.add Q).x) (Y := (P.add Q).y) rfl rfl (den2 C (P.add Q).on R.on)
 have g2 := frac2 (x := P.x) (y := P.y) (d := C.d) b1 b2 (X := (Q.add R).x) (Y := (Q.add R).y) rfl rfl (den2 C (Q.add R).on P.on)
 refine Pt.ext' ?_ ?_
 ·
  exact quot f1.1 g1.1 f1.2 g1.2 (by
   have := assocx P.on Q.on R.on
   generalize P.x = x1 at *; generalize P.y = y1 at *; generalize Q.x = x2 at *; generalize Q.y = y2 at *; generalize R.x = x3 at *; generalize R.y = y3 at *
   clear f1 f2 g1 g2 a1 a2 b1 b2
   grind)
 ·
  exact quot f2.1 g2.1 f2.2 g2.2 (by
   have := assocy P.on Q.on R.on
   clear f1 f2 g1 g2 a1 a2 b1 b2
   generalize P.x = x1 at *; generalize P.y = y1 at *; generalize Q.x = x2 at *; generalize Q.y = y2 at *; generalize R.x = x3 at *; generalize R.y = y3 at *
   grind)
def Pt.smul {C : Crv F} : Nat → Pt C → Pt C
  | 0, _ => Pt.zero C
  | n + 1, P => (Pt.smul n P).add P
theorem Pt.smul_add {C : Crv F} (m n : Nat) (P : Pt C) : Pt.smul (m + n) P = (Pt.smul m P).add (Pt.smul n P) := by
 induction n with
 | zero => exact (Pt.add_zero _).symm
 | succ n ih => show (Pt.smul (m + n) P).add P = _; rw [ih, Pt.add_assoc]; rfl
theorem Pt.smul_zero' {C : Crv F} (n : Nat) : Pt.smul n (Pt.zero C) = Pt.zero C := by
 induction n with
 | zero => rfl
 | succ n ih => show (Pt.smul n _).add _ = _; rw [ih, Pt.add_zero]
theorem Pt.smul_mul {C : Crv F} (m n : Nat) (P : Pt C) : Pt.smul (m * n) P = Pt.smul m (Pt.smul n P) := by
 induction m with
 | zero => rw [Nat.zero_mul]; rfl
 | succ m ih => rw [Nat.succ_mul, Pt.smul_add, ih]; rfl
theorem Pt.smul_mod {C : Crv F} {L : Nat} {P : Pt C} (h : Pt.smul L P = Pt.zero C) (n : Nat) : Pt.smul (n % L) P = Pt.smul n P := by
 have := Nat.div_add_mod n L
 conv => rhs; rw [← this]
 rw [Pt.smul_add, Nat.mul_comm, Pt.smul_mul, h, Pt.smul_zero', Pt.zero_add]
theorem Pt.cancel {C : Crv F} (P Q : Pt C) : P.add (Q.add P.neg) = Q := by
 rw [Pt.add_comm Q, ← Pt.add_assoc, Pt.add_comm P, Pt.neg_add, Pt.zero_add]
theorem Pt.neg_unique {C : Crv F} {P Q : Pt C} (h : P.add Q = Pt.zero C) : Q = P.neg := by
 have := congrArg (fun x => P.neg.add x) h
 simp only [← Pt.add_assoc, Pt.neg_add, Pt.zero_add, Pt.add_zero] at this
 exact this
theorem Pt.smul_neg {C : Crv F} (n : Nat) (P : Pt C) : Pt.smul n P.neg = (Pt.smul n P).neg := by
 refine Pt.neg_unique ?_
 induction n with
 | zero => exact Pt.zero_add _
 | succ n ih =>
  show ((Pt.smul n P).add P).add ((Pt.smul n P.neg).add P.neg) = _
  rw [Pt.add_assoc, ← Pt.add_assoc P, Pt.add_comm P (Pt.smul n P.neg), Pt.add_assoc (Pt.smul n P.neg), Pt.add_comm P P.neg, Pt.neg_add, Pt.add_zero, ih]
theorem Pt.checks {C : Crv F} {L : Nat} {B : Pt C} (h : Pt.smul L B = Pt.zero C) (k a r : Nat) :
 (Pt.smul ((k * a + r) % L) B).add (Pt.smul k (Pt.smul a B).neg) = Pt.smul r B := by
 rw [Pt.smul_mod h, Pt.smul_add, Pt.smul_mul, Pt.smul_neg, Pt.add_assoc, Pt.cancel]
end Go.Proofs.YtfjedhmffccgnaaGreatDoor.Ed
namespace Go.Proofs.YtfjedhmffccgnaaGreatDoor.Ed
def P : Nat := 57896044618658097711785492504343953926634992332820282019728792003956564819949
theorem P_pr : Nt.Pr P := Nt.pr_57896044618658097711785492504343953926634992332820282019728792003956564819949
theorem P_pos : 0 < P := by decide
instance : NeZero P := ⟨by decide⟩
def Fp : Type := Fin P
instance : CommRing Fp := inferInstanceAs (CommRing (Fin P))
instance : DecidableEq Fp := inferInstanceAs (DecidableEq (Fin P))
def fp (n : Nat) : Fp := Fin.ofNat P n
def Fp.val (a : Fp) : Nat := Fin.val a
theorem Fp.lt (a : Fp) : a.val < P := Fin.isLt a
theorem fp_val (a : Fp) : fp a.val = a := Fin.ext (Nat.mod_eq_of_lt a.lt)
theorem val_fp (n : Nat) : (fp n).val = n % P := rfl
theorem Fp.ext {a b : Fp} (h : a.val = b.val) : a = b := Fin.ext h
theorem fp_eq {a b : Nat} : fp a = fp b ↔ a % P = b % P := ⟨fun h => congrArg Fp.val h, fun h => Fp.ext h⟩
theorem fp_add (a b : Nat) : fp (a + b) = fp a + fp b := Fp.ext (by show _ % P = (a % P + b % P) % P; rw [← Nat.add_mod])
theorem fp_mul (a b : Nat) : fp (a * b) = fp a * fp b := Fp.ext (by show _ % P = (a % P * (b % P)) % P; rw [← Nat.mul_mod])
theorem fp_zero : fp 0 = 0 := rfl
theorem fp_one : fp 1 = 1 := rfl
theorem fp_pow (a n : Nat) : fp (a ^ n) = fp a ^ n := by
 induction n with
 | zero => rw [Nat.pow_zero, Semiring.pow_zero, fp_one]
 | succ n ih => rw [Nat.pow_succ, fp_mul, ih, Semiring.pow_succ]
theorem fp_P : fp P = 0 := by rw [← fp_zero, fp_eq, Nat.mod_self, Nat.zero_mod]
theorem fp_zero_iff {n : Nat} : fp n = 0 ↔ P ∣ n := by
 rw [← fp_zero, fp_eq, Nat.zero_mod]; exact ⟨Nat.dvd_of_mod_eq_zero, Nat.mod_eq_zero_of_dvd⟩
theorem fp_mul_zero {a b : Fp} (h : a * b = 0) : a = 0 ∨ b = 0 := by
 rw [← fp_val a, ← fp_val b, ← fp_mul, fp_zero_iff] at h
 rcases P_pr.euclid h with h | h
 · exact .inl (by rw [← fp_val a]; exact fp_zero_iff.2 h)
 · exact .inr (by rw [← fp_val b]; exact fp_zero_iff.2 h)
theorem fermat {a : Fp} (h : a ≠ 0) : a ^ (P - 1) = 1 := by
 have n : ¬ P ∣ a.val := fun k => h (by rw [← fp_val a]; exact fp_zero_iff.2 k)
 have := P_pr.fermat n
 rw [← fp_val a, ← fp_pow, ← fp_one, fp_eq, this]; rfl
def Fp.inv (a : Fp) : Fp := a ^ (P - 2)
theorem mul_inv {a : Fp} (h : a ≠ 0) : a * a.inv = 1 := by
 rw [← fermat h, CommSemiring.mul_comm, Fp.inv, ← Semiring.pow_succ]; rfl
theorem zero_pow (n : Nat) : (0 : Fp) ^ (n + 1) = 0 := by rw [Semiring.pow_succ, Semiring.mul_zero]
def Fp.zpow (a : Fp) : Int → Fp
  | .ofNat n => a ^ n
  | .negSucc n => (a ^ (n + 1)).inv
theorem inv_one : (1 : Fp).inv = 1 := by unfold Fp.inv; exact Semiring.one_pow _
theorem inv_inv' (a : Fp) : a.inv.inv = a := by
 by_cases h : a = 0
 ·
  subst h
  have : (0 : Fp).inv = 0 := zero_pow (P - 3)
  rw [this, this]
 ·
  have e := mul_inv h
  have h' : a.inv ≠ 0 := fun z => by
   rw [z, Semiring.mul_zero] at e
   exact absurd (congrArg Fp.val e) (by decide)
  have e' := mul_inv h'
  have : a * (a.inv * a.inv.inv) = a := by rw [e', Semiring.mul_one]
  rw [← Semiring.mul_assoc, e, Semiring.one_mul] at this
  exact this
instance : Field Fp where
  inv := Fp.inv
  div a b := a * b.inv
  zpow := ⟨Fp.zpow⟩
  div_eq_mul_inv _ _ := rfl
  zero_ne_one h := absurd (congrArg Fp.val h) (by decide)
  inv_zero := zero_pow (P - 3)
  mul_inv_cancel := mul_inv
  zpow_zero a := Semiring.pow_zero a
  zpow_succ a n := Semiring.pow_succ a n
  zpow_neg a n := by
    show Fp.zpow a (-n) = (Fp.zpow a n).inv
    cases n with
    | ofNat n => cases n with
      | zero => show a ^ 0 = (a ^ 0).inv; rw [Semiring.pow_zero, inv_one]
      | succ n => rfl
    | negSucc n => show a ^ (n + 1) = (a ^ (n + 1)).inv.inv; rw [inv_inv']
theorem pow_pw (a e f c : Nat) (hf : Nat.blt e (2 ^ f) = true) (h : Nat.beq (Nt.pw P a f e) c = true) : fp a ^ e = fp c := by
 have := Nt.pw_eq P a f e (by simpa [Nat.blt_eq] using hf)
 rw [Nat.eq_of_beq_eq_true h] at this
 rw [← fp_pow, fp_eq, ← this, this, Nat.mod_mod]
def dN : Nat := 37095705934669439343138083508754565189542113879843219016388785533085940283555
def iN : Nat := 19681161376707505956807079304988542015446066515923890162744021073123829784752
theorem neg_one : fp (P - 1) = -1 := by
 have : fp (P - 1) + 1 = 0 := by rw [← fp_one, ← fp_add]; exact fp_P
 grind
theorem two_ne : (2 : Fp) ≠ 0 := fun h => absurd (congrArg Fp.val h) (by decide)
theorem one_ne : (1 : Fp) ≠ 0 := fun h => absurd (congrArg Fp.val h) (by decide)
theorem pow_mul (a : Fp) (m n : Nat) : a ^ (m * n) = (a ^ m) ^ n := by
 induction n with
 | zero => rw [Nat.mul_zero, Semiring.pow_zero, Semiring.pow_zero]
 | succ n ih => rw [Nat.mul_succ, Semiring.pow_add, ih, Semiring.pow_succ]
theorem half {a : Fp} (h : a ≠ 0) : a ^ ((P - 1) / 2) = 1 ∨ a ^ ((P - 1) / 2) = -1 := by
 have e := fermat h
 have : a ^ (P - 1) = a ^ ((P - 1) / 2) * a ^ ((P - 1) / 2) := by rw [← Semiring.pow_add]; rfl
 rw [this] at e
 generalize a ^ ((P - 1) / 2) = b at *
 have : (b - 1) * (b + 1) = 0 := by grind
 rcases fp_mul_zero this with h | h
 · left; grind
 · right; grind
theorem d_nonsq (s : Fp) : s * s ≠ fp dN := fun h => by
 have e : fp dN ^ ((P - 1) / 2) = fp (P - 1) := pow_pw _ _ 255 _ (by decide +kernel) (by decide +kernel)
 rw [neg_one, ← h] at e
 by_cases z : s = 0
 · subst z; exact absurd (congrArg Fp.val h) (by decide)
 ·
  have : (s * s) ^ ((P - 1) / 2) = s ^ (P - 1) := by
   have : s * s = s ^ 2 := by grind
   rw [this, ← pow_mul]; rfl
  rw [this, fermat z] at e
  exact two_ne (by grind)
def crv : Crv Fp where
  d := fp dN
  i := fp iN
  hi := by rw [← fp_mul, ← neg_one, fp_eq]; decide +kernel
  hd := d_nonsq
  h2 := two_ne
end Go.Proofs.YtfjedhmffccgnaaGreatDoor.Ed
namespace Go.Proofs.YtfjedhmffccgnaaGreatDoor.Ed
section
variable {F : Type} [Field F]
structure Pj (F : Type) where
  x : F
  y : F
  z : F
  t : F
def Pj.R {C : Crv F} (p : Pj F) (Q : Pt C) : Prop := p.z ≠ 0 ∧ p.x = Q.x * p.z ∧ p.y = Q.y * p.z ∧ p.t = Q.x * Q.y * p.z
def Pj.plus (d : F) (p q : Pj F) : Pj F :=
  let a := (p.y - p.x) * (q.y - q.x)
  let b := (p.y + p.x) * (q.y + q.x)
  let c := 2 * d * p.t * q.t
  let e := 2 * p.z * q.z
  ⟨(b - a) * (e - c), (e + c) * (b + a), (e - c) * (e + c), (b - a) * (b + a)⟩
def Pj.twice (p : Pj F) : Pj F :=
  let a := p.x * p.x
  let b := p.y * p.y
  let c := 2 * p.z * p.z
  let h := a + b
  let e := h - (p.x + p.y) * (p.x + p.y)
  let g := a - b
  let f := c + g
  ⟨e * f, g * h, f * g, e * h⟩
theorem Pj.plusR {C : Crv F} {p q : Pj F} {A B : Pt C} (hp : p.R A) (hq : q.R B) : (Pj.plus C.d p q).R (A.add B) := by
 obtain ⟨p0, p1, p2, p3⟩ := hp; obtain ⟨q0, q1, q2, q3⟩ := hq
 have n1 := den1 C A.on B.on; have n2 := den2 C A.on B.on
 have i1 := Field.mul_inv_cancel n1; have i2 := Field.mul_inv_cancel n2
 have eg : (p.y + p.x) * (q.y + q.x) - (p.y - p.x) * (q.y - q.x) = 2 * p.z * q.z * (A.x * B.y + A.y * B.x) := by rw [p1, p2, q1, q2]; clear i1 i2 n1 n2; grind
 have el : (p.y + p.x) * (q.y + q.x) + (p.y - p.x) * (q.y - q.x) = 2 * p.z * q.z * (A.y * B.y + A.x * B.x) := by rw [p1, p2, q1, q2]; clear i1 i2 n1 n2; grind
 have eh : 2 * p.z * q.z - 2 * C.d * p.t * q.t = 2 * p.z * q.z * (1 - C.d * A.x * B.x * A.y * B.y) := by rw [p3, q3]; clear i1 i2 n1 n2; grind
 have ek : 2 * p.z * q.z + 2 * C.d * p.t * q.t = 2 * p.z * q.z * (1 + C.d * A.x * B.x * A.y * B.y) := by rw [p3, q3]; clear i1 i2 n1 n2; grind
 have w0 : 2 * p.z * q.z ≠ 0 := mul_ne (mul_ne C.h2 p0) q0
 simp only [Pj.plus, Pj.R, Pt.add, eg, el, eh, ek]
 refine ⟨mul_ne (mul_ne w0 n2) (mul_ne w0 n1), ?_⟩
 clear eg el eh ek p0 p1 p2 p3 q0 q1 q2 q3
 generalize 2 * p.z * q.z = w at *
 generalize A.x * B.y + A.y * B.x = u at *
 generalize A.y * B.y + A.x * B.x = v at *
 generalize (1 - C.d * A.x * B.x * A.y * B.y)⁻¹ = j2 at *
 generalize (1 + C.d * A.x * B.x * A.y * B.y)⁻¹ = j1 at *
 generalize 1 - C.d * A.x * B.x * A.y * B.y = m2 at *
 generalize 1 + C.d * A.x * B.x * A.y * B.y = m1 at *
 clear n1 n2 w0
 refine ⟨?_, ?_, ?_⟩ <;> grind
theorem Pj.twiceR {C : Crv F} {p : Pj F} {A : Pt C} (hp : p.R A) : p.twice.R (A.add A) := by
 obtain ⟨p0, p1, p2, _⟩ := hp
 have on := A.on
 have n1 := den1 C A.on A.on; have n2 := den2 C A.on A.on
 have i1 := Field.mul_inv_cancel n1; have i2 := Field.mul_inv_cancel n2
 have k1 : 1 + C.d * A.x * A.x * A.y * A.y = A.y * A.y - A.x * A.x := by unfold On at on; clear i1 i2 n1 n2; grind
 have ee : p.z * p.z * (A.y * A.y + A.x * A.x) - (p.x + p.y) * (p.x + p.y) = - (p.z * p.z * (A.x * A.y + A.y * A.x)) := by rw [p1, p2]; clear i1 i2 n1 n2 k1 on; grind
 have eg : p.x * p.x - p.y * p.y = - (p.z * p.z * (1 + C.d * A.x * A.x * A.y * A.y)) := by rw [p1, p2, k1]; clear i1 i2 n1 n2 k1 on; grind
 have eh : p.x * p.x + p.y * p.y = p.z * p.z * (A.y * A.y + A.x * A.x) := by rw [p1, p2]; clear i1 i2 n1 n2 k1 on; grind
 have ef : 2 * p.z * p.z + - (p.z * p.z * (1 + C.d * A.x * A.x * A.y * A.y)) = p.z * p.z * (1 - C.d * A.x * A.x * A.y * A.y) := by clear i1 i2 n1 n2 k1 on; grind
 have w0 : p.z * p.z ≠ 0 := mul_ne p0 p0
 have neg_ne : ∀ {a : F}, a ≠ 0 → -a ≠ 0 := fun h => by grind
 simp only [Pj.twice, Pj.R, Pt.add, eg, eh, ef, ee]
 refine ⟨mul_ne (mul_ne w0 n2) (neg_ne (mul_ne w0 n1)), ?_⟩
 clear ee eg eh ef p0 p1 p2 k1 on
 generalize p.z * p.z = w at *
 generalize A.x * A.y + A.y * A.x = u at *
 generalize A.y * A.y + A.x * A.x = v at *
 generalize (1 - C.d * A.x * A.x * A.y * A.y)⁻¹ = j2 at *
 generalize (1 + C.d * A.x * A.x * A.y * A.y)⁻¹ = j1 at *
 generalize 1 - C.d * A.x * A.x * A.y * A.y = m2 at *
 generalize 1 + C.d * A.x * A.x * A.y * A.y = m1 at *
 clear n1 n2 w0 neg_ne
 refine ⟨?_, ?_, ?_⟩ <;> grind
theorem Pj.negR {C : Crv F} {p : Pj F} {A : Pt C} (hp : p.R A) : Pj.R ⟨-p.x, p.y, p.z, -p.t⟩ A.neg := by
 obtain ⟨p0, p1, p2, p3⟩ := hp
 refine ⟨p0, ?_, p2, ?_⟩
 · show -p.x = -A.x * p.z; rw [p1]; grind
 · show -p.t = -A.x * A.y * p.z; rw [p3]; grind
theorem Pj.ofR {C : Crv F} (A : Pt C) : Pj.R ⟨A.x, A.y, 1, A.x * A.y⟩ A := ⟨fun h => Field.zero_ne_one h.symm, by grind, by grind, by grind⟩
theorem Pj.zeroR (C : Crv F) : Pj.R ⟨0, 1, 1, 0⟩ (Pt.zero C) := ⟨fun h => Field.zero_ne_one h.symm, by show (0:F) = 0 * 1; grind, by show (1:F) = 1 * 1; grind, by show (0:F) = 0 * 1 * 1; grind⟩
theorem Pj.xy {C : Crv F} {p : Pj F} {A : Pt C} (hp : p.R A) : p.x * p.z⁻¹ = A.x ∧ p.y * p.z⁻¹ = A.y := by
 obtain ⟨p0, p1, p2, _⟩ := hp
 have i := Field.mul_inv_cancel p0
 constructor
 · rw [p1]; grind
 · rw [p2]; grind
end
end Go.Proofs.YtfjedhmffccgnaaGreatDoor.Ed
namespace Go.Proofs.YtfjedhmffccgnaaGreatDoor.Ed
def Fp.odd (a : Fp) : Bool := a.val % 2 == 1
theorem val_neg {a : Fp} (h : a ≠ 0) : (-a).val = P - a.val := by
 have l := a.lt
 have n : a.val ≠ 0 := fun e => h (Fp.ext (e.trans rfl))
 have : fp (P - a.val) = -a := by
  have e : fp (P - a.val) + fp a.val = 0 := by rw [← fp_add, Nat.sub_add_cancel (Nat.le_of_lt l), fp_P]
  rw [fp_val] at e
  grind
 rw [← this, val_fp, Nat.mod_eq_of_lt (by omega)]
theorem P_odd : P % 2 = 1 := by decide
theorem odd_neg {a : Fp} (h : a ≠ 0) : (-a).odd = !a.odd := by
 have l := a.lt; have := P_odd
 unfold Fp.odd; rw [val_neg h]
 have : (P - a.val) % 2 = 1 - a.val % 2 := by omega
 rw [this]
 rcases Nat.mod_two_eq_zero_or_one a.val with e | e <;> rw [e] <;> rfl
theorem odd_zero : (0 : Fp).odd = false := rfl
def Fp.even (a : Fp) : Fp := if a.odd then -a else a
theorem even_odd (a : Fp) : a.even.odd = false := by
 unfold Fp.even; split
 ·
  rename_i h
  by_cases z : a = 0
  · subst z; simp [odd_zero] at h
  · rw [odd_neg z, h]; rfl
 · rename_i h; simpa using h
theorem even_sq (a : Fp) : a.even * a.even = a * a := by unfold Fp.even; split <;> grind
theorem sq_eq {a b : Fp} (h : a * a = b * b) : a = b ∨ a = -b := by
 have : (a - b) * (a + b) = 0 := by grind
 rcases fp_mul_zero this with h | h
 · left; grind
 · right; grind
theorem odd_eq {a b : Fp} (h : a * a = b * b) (ho : a.odd = b.odd) : a = b := by
 rcases sq_eq h with e | e
 · exact e
 ·
  by_cases z : b = 0
  · subst z; rw [e]; grind
  · rw [e, odd_neg z] at ho; revert ho; cases b.odd <;> simp
def rootX (u v : Fp) : Fp :=
  let cube := v * v * v
  u * cube * (u * cube * cube * v) ^ ((P - 5) / 8)
def root (u v : Fp) : Option Fp :=
  let x := rootX u v
  if v * x * x = u then some x.even else if v * x * x = -u then some (x * fp 2 ^ ((P - 1) / 4)).even else none
theorem i_pow : fp 2 ^ ((P - 1) / 4) = fp iN := pow_pw _ _ 254 _ (by decide +kernel) (by decide +kernel)
theorem i_sq : fp iN * fp iN = -1 := crv.hi
theorem rootX_sq {u v s : Fp} (hv : v ≠ 0) (h : u = v * s * s) : v * rootX u v * rootX u v = u ∨ v * rootX u v * rootX u v = -u := by
 by_cases z : s = 0
 · left; subst z; subst h; unfold rootX; grind
 ·
  have hn : s * (v * v * v * v) ≠ 0 := mul_ne z (mul_ne (mul_ne (mul_ne hv hv) hv) hv)
  have e : u * (v * v * v) * (v * v * v) * v = (s * (v * v * v * v)) ^ 2 := by subst h; grind
  have q : rootX u v * rootX u v = u * u * (v * v * v) * (v * v * v) * (s * (v * v * v * v)) ^ (4 * ((P - 5) / 8)) := by
   unfold rootX
   simp only [e]
   rw [← pow_mul, show 4 * ((P - 5) / 8) = 2 * ((P - 5) / 8) + 2 * ((P - 5) / 8) from by decide, Semiring.pow_add]
   generalize (s * (v * v * v * v)) ^ (2 * ((P - 5) / 8)) = w
   clear e h; grind
  have hh := half hn
  rw [show (P - 1) / 2 = 4 * ((P - 5) / 8) + 2 from by decide, Semiring.pow_add] at hh
  have m : v * rootX u v * rootX u v = u * ((s * (v * v * v * v)) ^ (4 * ((P - 5) / 8)) * (s * (v * v * v * v)) ^ 2) := by
   have : v * rootX u v * rootX u v = v * (rootX u v * rootX u v) := by grind
   rw [this, q, ← e]
   generalize (s * (v * v * v * v)) ^ (4 * ((P - 5) / 8)) = w
   clear hh e h q hn; grind
  rw [m]
  rcases hh with hh | hh <;> rw [hh]
  · left; grind
  · right; grind
theorem root_sq {u v s : Fp} (hv : v ≠ 0) (h : u = v * s * s) : root u v = some s.even := by
 have c := rootX_sq hv h
 have can : ∀ x : Fp, v * x * x = v * s * s → x.even = s.even := fun x e => by
  have : v * (x * x - s * s) = 0 := by grind
  have : x * x = s * s := by
   rcases fp_mul_zero this with k | k
   · exact absurd k hv
   · grind
  exact odd_eq (by rw [even_sq, even_sq, this]) (by rw [even_odd, even_odd])
 unfold root
 generalize rootX u v = x at *
 dsimp only
 split
 · rename_i e; rw [can x (by rw [e, h])]
 ·
  rename_i n
  have e := c.resolve_left n
  rw [if_pos e, i_pow, can (x * fp iN) (by have := i_sq; grind)]
theorem den_ne (y : Fp) : fp dN * (y * y) + 1 ≠ 0 := fun h => by
 by_cases z : y = 0
 · subst z; exact one_ne (by grind)
 ·
  have i := Field.mul_inv_cancel z
  exact d_nonsq (fp iN * y⁻¹) (by have := i_sq; generalize y⁻¹ = w at *; grind)
theorem even_of {a : Fp} (h : a.odd = false) : a.even = a := by unfold Fp.even; rw [h]; exact if_neg (by simp)
theorem even_of' {a : Fp} (h : a.odd = true) : a.even = -a := by unfold Fp.even; rw [h]; exact if_pos rfl
theorem odd_ne {a : Fp} (h : a.odd = true) : a ≠ 0 := fun z => by rw [z, odd_zero] at h; exact Bool.noConfusion h
theorem neg_neg' (a : Fp) : -(-a) = a := by grind
theorem root_on (Q : Pt crv) : root (Q.y * Q.y - 1) (fp dN * (Q.y * Q.y) + 1) = some Q.x.even := by
 have on : On (fp dN) Q.x Q.y := Q.on
 refine root_sq (den_ne _) ?_
 unfold On at on
 generalize Q.x = x at *; generalize Q.y = y at *; generalize fp dN = d at *
 grind
end Go.Proofs.YtfjedhmffccgnaaGreatDoor.Ed
namespace Go.Proofs.YtfjedhmffccgnaaGreatDoor.Ed
def bxN : Nat := 15112221349535400772501151409588531511454012693041857206046113283949847762202
def byN : Nat := 46316835694926478169428394003475163141307993866256225615783033603165251855960
def Bs : Pt crv := ⟨fp bxN, fp byN, by
  show fp byN * fp byN - fp bxN * fp bxN = 1 + fp dN * fp bxN * fp bxN * fp byN * fp byN
  have : fp (byN * byN) = fp (bxN * bxN + (1 + dN * bxN * bxN * byN * byN)) := by rw [fp_eq]; decide +kernel
  simp only [fp_add, fp_mul, fp_one] at this
  rw [this]; grind⟩
def Lo : Nat := 7237005577332262213973186563042994240857116359379907606001950938285454250989
theorem Lo_pr : Nt.Pr Lo := Nt.pr_7237005577332262213973186563042994240857116359379907606001950938285454250989
structure Nj where
  x : Nat
  y : Nat
  z : Nat
  t : Nat
def Nj.pj (p : Nj) : Pj Fp := ⟨fp p.x, fp p.y, fp p.z, fp p.t⟩
def ms (a b : Nat) : Nat := (a + (P - b)) % P
def mm (a b : Nat) : Nat := a * b % P
theorem fp_mod (a : Nat) : fp (a % P) = fp a := by rw [fp_eq, Nat.mod_mod]
theorem fp_ms {a b : Nat} (h : b ≤ P) : fp (ms a b) = fp a - fp b := by
 have : fp (P - b) + fp b = 0 := by rw [← fp_add, Nat.sub_add_cancel h, fp_P]
 unfold ms; rw [fp_mod, fp_add]; grind
theorem fp_mm (a b : Nat) : fp (mm a b) = fp a * fp b := by unfold mm; rw [fp_mod, fp_mul]
theorem mm_le (a b : Nat) : mm a b ≤ P := Nat.le_of_lt (Nat.mod_lt _ P_pos)
def Nj.plus (p q : Nj) : Nj :=
  let a := mm (ms p.y p.x) (ms q.y q.x)
  let b := mm (p.y + p.x) (q.y + q.x)
  let c := mm (mm (2 * dN) p.t) q.t
  let e := mm (2 * p.z) q.z
  ⟨mm (ms b a) (ms e c), mm (e + c) (b + a), mm (ms e c) (e + c), mm (ms b a) (b + a)⟩
def Nj.ok (p : Nj) : Prop := p.x ≤ P ∧ p.y ≤ P ∧ p.z ≤ P ∧ p.t ≤ P
theorem Nj.plus_ok (p q : Nj) : (Nj.plus p q).ok := ⟨mm_le _ _, mm_le _ _, mm_le _ _, mm_le _ _⟩
theorem fp_two : fp 2 = 2 := rfl
theorem Nj.plus_pj {p q : Nj} (hp : p.ok) (hq : q.ok) : (Nj.plus p q).pj = Pj.plus (fp dN) p.pj q.pj := by
 unfold Nj.plus Pj.plus Nj.pj
 simp only [fp_mm, fp_add, fp_ms (mm_le _ _), fp_ms hp.1, fp_ms hq.1, fp_two, fp_mul]
def Nj.mul (p : Nj) : Nat → Nat → Nj
  | 0, _ => ⟨0, 1, 1, 0⟩
  | f + 1, n => if n % 2 = 1 then Nj.plus (Nj.plus (Nj.mul p f (n / 2)) (Nj.mul p f (n / 2))) p else Nj.plus (Nj.mul p f (n / 2)) (Nj.mul p f (n / 2))
theorem Nj.mulR {p : Nj} {A : Pt crv} (hp : p.ok) (h : p.pj.R A) : ∀ f n, n < 2 ^ f → (p.mul f n).ok ∧ (p.mul f n).pj.R (Pt.smul n A) := by
  intro f
  induction f with
  | zero => intro n hn; have : n = 0 := by simpa using hn
            subst this; exact ⟨⟨Nat.zero_le _, P_pos, P_pos, Nat.zero_le _⟩, Pj.zeroR crv⟩
  | succ f ih =>
    intro n hn
    obtain ⟨o, r⟩ := ih (n / 2) (by rw [Nat.pow_succ] at hn; omega)
    have o2 := Nj.plus_ok (p.mul f (n / 2)) (p.mul f (n / 2))
    have r2 : (Nj.plus (p.mul f (n / 2)) (p.mul f (n / 2))).pj.R (Pt.smul (n / 2 + n / 2) A) := by
      rw [Nj.plus_pj o o, Pt.smul_add]; exact Pj.plusR (C := crv) r r
    unfold Nj.mul; split
    · refine ⟨Nj.plus_ok _ _, ?_⟩
      rw [Nj.plus_pj o2 hp, show n = (n / 2 + n / 2) + 1 from by omega]
      have := Pj.plusR (C := crv) r2 h
      rw [show (n / 2 + n / 2 + 1) / 2 = n / 2 from by omega]
      exact this
    · rw [show n = n / 2 + n / 2 from by omega]
      rw [show (n / 2 + n / 2) / 2 = n / 2 from by omega]
      exact ⟨o2, r2⟩
def Bj : Nj := ⟨bxN, byN, 1, bxN * byN % P⟩
theorem Bj_ok : Bj.ok := by unfold Nj.ok; decide +kernel
theorem Bj_R : Bj.pj.R Bs := by
 have e : Bj.pj = ⟨Bs.x, Bs.y, 1, Bs.x * Bs.y⟩ := by
  show Pj.mk (fp bxN) (fp byN) (fp 1) (fp (bxN * byN % P)) = _
  rw [fp_mod, fp_mul]; rfl
 rw [e]; exact Pj.ofR Bs
theorem order : Pt.smul Lo Bs = Pt.zero crv := by
 have r := (Nj.mulR Bj_ok Bj_R 253 Lo (by decide +kernel)).2
 have c : (Nat.beq (Bj.mul 253 Lo).x 0 && Nat.beq (Bj.mul 253 Lo).y (Bj.mul 253 Lo).z) = true := by decide +kernel
 simp only [Bool.and_eq_true] at c
 have cx := Nat.eq_of_beq_eq_true c.1; have cy := Nat.eq_of_beq_eq_true c.2
 generalize Bj.mul 253 Lo = m at *
 generalize Pt.smul Lo Bs = Q at *
 obtain ⟨h0, h1, h2, _⟩ := r
 simp only [Nj.pj, cx, cy] at h0 h1 h2
 refine Pt.ext' ?_ ?_
 ·
  show Q.x = 0
  rw [fp_zero] at h1
  rcases fp_mul_zero h1.symm with e | e
  · exact e
  · exact absurd e h0
 ·
  show Q.y = 1
  have i := Field.mul_inv_cancel h0
  generalize fp m.z = z at *
  generalize z⁻¹ = w at *
  clear c cx cy h0 h1
  grind
theorem gcd_zero {A : Pt crv} : ∀ m n, Pt.smul m A = Pt.zero crv → Pt.smul n A = Pt.zero crv → Pt.smul (Nat.gcd m n) A = Pt.zero crv := by
 intro m n
 induction m, n using Nat.gcd.induction with
 | H0 n => intro _ h; rwa [Nat.gcd_zero_left]
 | H1 m n hm ih =>
  intro h1 h2
  rw [Nat.gcd_rec]
  refine ih ?_ h1
  rw [Pt.smul_mod h1]; exact h2
theorem tiny {a : Nat} (h8 : a % 8 = 0) (hl : 2 ^ 254 ≤ a) (hh : a < 2 ^ 255) : Pt.smul 8 (Pt.smul a Bs) ≠ Pt.zero crv := fun h => by
 rw [← Pt.smul_mul] at h
 have g := gcd_zero _ _ h order
 rcases Lo_pr.2 _ (Nat.gcd_dvd_right (8 * a) Lo) with e | e
 ·
  rw [e] at g
  have : Pt.smul 1 Bs = Bs := Pt.zero_add Bs
  rw [this] at g
  exact absurd (congrArg (fun p => Fp.val (Pt.x p)) g) (by decide +kernel)
 ·
  have d : Lo ∣ 8 * a := e ▸ Nat.gcd_dvd_left (8 * a) Lo
  have c8 : Nat.Coprime Lo 8 := by decide +kernel
  obtain ⟨k, hk⟩ := Nat.Coprime.dvd_of_dvd_mul_left c8 d
  have : 8 ∣ k := by
   have c : Nat.Coprime 8 Lo := by decide +kernel
   exact Nat.Coprime.dvd_of_dvd_mul_left c (hk ▸ Nat.dvd_of_mod_eq_zero h8)
  obtain ⟨j, rfl⟩ := this
  have : j ≠ 0 := fun z => by subst z; simp at hk; subst hk; revert hl; decide
  have : Lo * (8 * 1) ≤ a := by rw [hk]; exact Nat.mul_le_mul (Nat.le_refl _) (Nat.mul_le_mul (Nat.le_refl _) (by omega))
  have : ¬ Lo * (8 * 1) < 2 ^ 255 := by decide +kernel
  omega
end Go.Proofs.YtfjedhmffccgnaaGreatDoor.Ed
