/- What digits a text has, and what groups are as texts. Plain Lean, no program in sight. -/
namespace Go.Proofs.YtdgbckfnamiebaaDoor.S

/-- A blank, a line end or a stroke. -/
def plainB (x : UInt8) : Bool := x == 32 || x == 10 || x == 45
def digitB (x : UInt8) : Bool := decide (48 ≤ x.toNat ∧ x.toNat ≤ 57)
def encB (x : UInt8) : List UInt8 := if digitB x then [x] else if plainB x then [] else [120, x]
/-- What the program makes of a text. -/
def digL (l : List UInt8) : List UInt8 := l.flatMap encB
/-- What the document holds against one another. -/
def flt (l : List UInt8) : List UInt8 := l.filter fun x => !plainB x

def encN (x : UInt8) : List UInt8 := if digitB x then [x] else [120, x]
theorem digit_not_plain {x : UInt8} (h : digitB x = true) : plainB x = false := by
  unfold digitB at h
  unfold plainB
  have h' := of_decide_eq_true h
  simp only [Bool.or_eq_false_iff, beq_eq_false_iff_ne, ne_eq]
  refine ⟨⟨?_, ?_⟩, ?_⟩ <;> (rintro rfl; revert h'; decide)
theorem digL_flt : ∀ l : List UInt8, digL l = (flt l).flatMap encN
  | [] => rfl
  | x :: l => by
    have ih := digL_flt l
    unfold digL flt at ih ⊢
    rw [List.flatMap_cons, ih, List.filter_cons]
    by_cases hd : digitB x = true
    · rw [digit_not_plain hd]
      simp [encB, encN, hd]
    · by_cases hp : plainB x = true
      · simp [encB, hd, hp]
      · simp [encB, encN, hd, hp]
theorem encN_inj : ∀ p q : List UInt8, p.flatMap encN = q.flatMap encN → p = q
  | [], [], _ => rfl
  | [], y :: q, h => by
    rw [List.flatMap_nil, List.flatMap_cons] at h
    unfold encN at h
    split at h <;> simp at h
  | x :: p, [], h => by
    rw [List.flatMap_nil, List.flatMap_cons] at h
    unfold encN at h
    split at h <;> simp at h
  | x :: p, y :: q, h => by
    rw [List.flatMap_cons, List.flatMap_cons] at h
    have hx : digitB 120 = false := by decide
    by_cases h1 : digitB x = true <;> by_cases h2 : digitB y = true
    · simp only [encN, h1, h2, if_true, List.cons_append, List.nil_append, List.cons.injEq] at h
      rw [h.1, encN_inj p q h.2]
    · simp only [encN, h1, h2, if_true, Bool.false_eq_true, if_false, List.cons_append, List.nil_append, List.cons.injEq] at h
      rw [h.1, hx] at h1; cases h1
    · simp only [encN, h1, h2, if_true, Bool.false_eq_true, if_false, List.cons_append, List.nil_append, List.cons.injEq] at h
      rw [← h.1, hx] at h2; cases h2
    · simp only [encN, h1, h2, Bool.false_eq_true, if_false, List.cons_append, List.nil_append, List.cons.injEq, true_and] at h
      rw [h.1, encN_inj p q h.2]
theorem digL_eq {a b : List UInt8} : digL a = digL b ↔ flt a = flt b := by
  rw [digL_flt, digL_flt]
  exact ⟨encN_inj _ _, fun h => by rw [h]⟩
theorem digL_len : ∀ l : List UInt8, (digL l).length ≤ 2 * l.length
  | [] => by simp [digL]
  | x :: l => by
    have ih := digL_len l
    unfold digL at ih ⊢
    rw [List.flatMap_cons, List.length_append, List.length_cons]
    have : (encB x).length ≤ 2 := by unfold encB; split <;> first | (split <;> simp) | simp
    omega
theorem digL_take {l : List UInt8} {k : Nat} {x : UInt8} (h : l[k]? = some x) : digL (l.take (k + 1)) = digL (l.take k) ++ encB x := by
  unfold digL
  rw [List.take_add_one, h, List.flatMap_append]; simp

/-- A number's last five digits. -/
def dig5 (n : Nat) : List UInt8 := [UInt8.ofNat (48 + n / 10000 % 10), UInt8.ofNat (48 + n / 1000 % 10), UInt8.ofNat (48 + n / 100 % 10), UInt8.ofNat (48 + n / 10 % 10), UInt8.ofNat (48 + n % 10)]
/-- Groups with blanks between. -/
def textG : List Nat → List UInt8
  | [] => []
  | [n] => dig5 n
  | n :: m :: l => dig5 n ++ 32 :: textG (m :: l)
theorem textG_snoc (m : Nat) : ∀ l : List Nat, l ≠ [] → textG (l ++ [m]) = textG l ++ 32 :: dig5 m
  | [], h => absurd rfl h
  | [n], _ => rfl
  | n :: k :: l, _ => by
    have := textG_snoc m (k :: l) (by simp)
    rw [List.cons_append, List.cons_append, textG, ← List.cons_append, this, textG, List.append_assoc, List.cons_append]
end Go.Proofs.YtdgbckfnamiebaaDoor.S
