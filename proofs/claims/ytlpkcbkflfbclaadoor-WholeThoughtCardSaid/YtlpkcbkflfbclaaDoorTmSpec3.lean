/- What can be made of what is known: putting together, taking apart. Plain Lean: no program in this text. -/
import Derived.Test.YtlpkcbkflfbclaaDoorTmSpec2
namespace Go.Proofs.YtlpkcbkflfbclaaDoor.S

/-- The public key of a secret one. -/
def pub (t : Tm) : Tm := .mk 5 [] [t]
/-- Put together of what is known. -/
inductive Mk (K : Tm → Prop) : Tm → Prop
  | known {t : Tm} : K t → Mk K t
  | comp {k : Int} {n : List UInt8} {ts : List Tm} : k ≠ 1 → k ≠ 6 → (∀ a ∈ ts, Mk K a) → Mk K (.mk k n ts)
  | sh1 {n : List UInt8} {a b : Tm} : Mk K a → Mk K (pub b) → Mk K (.mk 6 n [a, b])
  | sh2 {n : List UInt8} {a b : Tm} : Mk K b → Mk K (pub a) → Mk K (.mk 6 n [a, b])
/-- Had by putting together and taking apart. -/
inductive Der (K : Tm → Prop) : Tm → Prop
  | known {t : Tm} : K t → Der K t
  | comp {k : Int} {n : List UInt8} {ts : List Tm} : k ≠ 1 → k ≠ 6 → (∀ a ∈ ts, Der K a) → Der K (.mk k n ts)
  | sh1 {n : List UInt8} {a b : Tm} : Der K a → Der K (pub b) → Der K (.mk 6 n [a, b])
  | sh2 {n : List UInt8} {a b : Tm} : Der K b → Der K (pub a) → Der K (.mk 6 n [a, b])
  | fst {n : List UInt8} {a b : Tm} : Der K (.mk 2 n [a, b]) → Der K a
  | snd {n : List UInt8} {a b : Tm} : Der K (.mk 2 n [a, b]) → Der K b
  | sig {n : List UInt8} {a b : Tm} : Der K (.mk 8 n [a, b]) → Der K b
  | opn {n : List UInt8} {a b : Tm} : Der K (.mk 3 n [a, b]) → Der K a → Der K b
/-- Nothing more comes of taking apart this one. -/
def ClosedAt (K : Tm → Prop) (t : Tm) : Prop :=
  (∀ n a b, t = .mk 2 n [a, b] → K a ∧ K b) ∧ (∀ n a b, t = .mk 8 n [a, b] → K b) ∧ (∀ n a b, t = .mk 3 n [a, b] → K b ∨ ¬ Mk K a)
def Closed (K : Tm → Prop) : Prop := ∀ t, K t → ClosedAt K t

section
variable {K K' : Tm → Prop}
theorem Mk.der {t : Tm} (h : Mk K t) : Der K t := by
  induction h with
  | known h => exact .known h
  | comp h1 h2 _ ih => exact .comp h1 h2 ih
  | sh1 _ _ i1 i2 => exact .sh1 i1 i2
  | sh2 _ _ i1 i2 => exact .sh2 i1 i2
theorem Mk.mono (hK : ∀ t, K t → K' t) {t : Tm} (h : Mk K t) : Mk K' t := by
  induction h with
  | known h => exact .known (hK _ h)
  | comp h1 h2 _ ih => exact .comp h1 h2 ih
  | sh1 _ _ i1 i2 => exact .sh1 i1 i2
  | sh2 _ _ i1 i2 => exact .sh2 i1 i2
/-- What is had of what is had is had. -/
theorem Der.cut (hK : ∀ t, K' t → Der K t) {t : Tm} (h : Der K' t) : Der K t := by
  induction h with
  | known h => exact hK _ h
  | comp h1 h2 _ ih => exact .comp h1 h2 ih
  | sh1 _ _ i1 i2 => exact .sh1 i1 i2
  | sh2 _ _ i1 i2 => exact .sh2 i1 i2
  | fst _ ih => exact .fst ih
  | snd _ ih => exact .snd ih
  | sig _ ih => exact .sig ih
  | opn _ _ i1 i2 => exact .opn i1 i2
theorem Der.mono (hK : ∀ t, K t → K' t) {t : Tm} (h : Der K t) : Der K' t := h.cut fun t ht => .known (hK t ht)
theorem Mk.cut (hK : ∀ t, K' t → Mk K t) {t : Tm} (h : Mk K' t) : Mk K t := by
  induction h with
  | known h => exact hK _ h
  | comp h1 h2 _ ih => exact .comp h1 h2 ih
  | sh1 _ _ i1 i2 => exact .sh1 i1 i2
  | sh2 _ _ i1 i2 => exact .sh2 i1 i2
theorem Mk.atom_iff {n : List UInt8} {ts : List Tm} : Mk K (.mk 1 n ts) ↔ K (.mk 1 n ts) := by
  constructor
  · intro h
    cases h with
    | known h => exact h
    | comp h1 _ _ => exact absurd rfl h1
  · exact .known
theorem Mk.six_iff {n : List UInt8} {a b : Tm} : Mk K (.mk 6 n [a, b]) ↔ K (.mk 6 n [a, b]) ∨ (Mk K a ∧ Mk K (pub b)) ∨ (Mk K b ∧ Mk K (pub a)) := by
  constructor
  · intro h
    cases h with
    | known h => exact .inl h
    | comp _ h2 _ => exact absurd rfl h2
    | sh1 h1 h2 => exact .inr (.inl ⟨h1, h2⟩)
    | sh2 h1 h2 => exact .inr (.inr ⟨h1, h2⟩)
  · rintro (h | ⟨h1, h2⟩ | ⟨h1, h2⟩)
    · exact .known h
    · exact .sh1 h1 h2
    · exact .sh2 h1 h2
theorem Mk.comp_iff {k : Int} {n : List UInt8} {ts : List Tm} (h1 : k ≠ 1) (h6 : k ≠ 6) : Mk K (.mk k n ts) ↔ K (.mk k n ts) ∨ ∀ a ∈ ts, Mk K a := by
  constructor
  · intro h
    cases h with
    | known h => exact .inl h
    | comp _ _ h => exact .inr h
    | sh1 _ _ => exact absurd rfl h6
    | sh2 _ _ => exact absurd rfl h6
  · rintro (h | h)
    · exact .known h
    · exact .comp h1 h6 h
/-- What is taken apart as far as can be: then all that is had is put together. -/
theorem Closed.der {t : Tm} (hc : Closed K) (h : Der K t) : Mk K t := by
  induction h with
  | known h => exact .known h
  | comp h1 h2 _ ih => exact .comp h1 h2 ih
  | sh1 _ _ i1 i2 => exact .sh1 i1 i2
  | sh2 _ _ i1 i2 => exact .sh2 i1 i2
  | fst _ ih =>
    rcases (Mk.comp_iff (by decide) (by decide)).1 ih with h | h
    · exact .known ((hc _ h).1 _ _ _ rfl).1
    · exact h _ (by simp)
  | snd _ ih =>
    rcases (Mk.comp_iff (by decide) (by decide)).1 ih with h | h
    · exact .known ((hc _ h).1 _ _ _ rfl).2
    · exact h _ (by simp)
  | sig _ ih =>
    rcases (Mk.comp_iff (by decide) (by decide)).1 ih with h | h
    · exact .known ((hc _ h).2.1 _ _ _ rfl)
    · exact h _ (by simp)
  | opn _ _ i1 i2 =>
    rcases (Mk.comp_iff (by decide) (by decide)).1 i1 with h | h
    · rcases (hc _ h).2.2 _ _ _ rfl with h' | h'
      · exact .known h'
      · exact absurd i2 h'
    · exact h _ (by simp)
theorem Closed.iff {t : Tm} (hc : Closed K) : Der K t ↔ Mk K t := ⟨hc.der, Mk.der⟩
end

/-! ### Sets as lists -/
/-- A term put in where it belongs. -/
def lowI (l : List Tm) (t : Tm) : Nat := l.countP (fun x => decide (cmpT x t < 0))
theorem lowI_of {l : List Tm} {t : Tm} {i : Nat} (hi : i ≤ l.length) (h1 : ∀ x ∈ l.take i, cmpT x t < 0) (h2 : ∀ x ∈ l.drop i, ¬ cmpT x t < 0) : i = lowI l t := by
  unfold lowI
  conv => rhs; rw [← List.take_append_drop i l]
  rw [List.countP_append, List.countP_eq_length.2 (fun x hx => by simpa using h1 x hx), List.countP_eq_zero.2 (fun x hx => by simpa using h2 x hx), List.length_take]
  omega
theorem lowI_le (l : List Tm) (t : Tm) : lowI l t ≤ l.length := List.countP_le_length
theorem lowI_split {l : List Tm} (h : Srt l) (t : Tm) : (∀ x ∈ l.take (lowI l t), cmpT x t < 0) ∧ ∀ x ∈ l.drop (lowI l t), ¬ cmpT x t < 0 := by
  unfold lowI
  induction l with
  | nil => simp
  | cons a l ih =>
    have hl : Srt l := (List.pairwise_cons.1 h).2
    have ha := (List.pairwise_cons.1 h).1
    obtain ⟨i1, i2⟩ := ih hl
    by_cases hc : cmpT a t < 0
    · rw [List.countP_cons_of_pos (by simpa using hc)]
      refine ⟨fun x hx => ?_, fun x hx => i2 x (by simpa using hx)⟩
      rw [List.take_succ_cons] at hx
      rcases List.mem_cons.1 hx with rfl | hx
      · exact hc
      · exact i1 x hx
    · rw [List.countP_cons_of_neg (by simpa using hc)]
      have h0 : l.countP (fun x => decide (cmpT x t < 0)) = 0 := by
        rw [List.countP_eq_zero]
        intro x hx
        have := ha x hx
        simp only [decide_eq_true_iff]
        intro hx2
        exact hc (cmpT_trans this hx2)
      rw [h0]
      refine ⟨fun x hx => by simp at hx, fun x hx => ?_⟩
      rw [List.drop_zero] at hx
      rcases List.mem_cons.1 hx with rfl | hx
      · exact hc
      · intro hx2; exact hc (cmpT_trans (ha x hx) hx2)
def insT (l : List Tm) (t : Tm) : List Tm := if t ∈ l then l else l.take (lowI l t) ++ t :: l.drop (lowI l t)
theorem insT_mem {l : List Tm} {t x : Tm} : x ∈ insT l t ↔ x = t ∨ x ∈ l := by
  unfold insT
  split
  · rename_i h
    exact ⟨.inr, fun h' => h'.elim (fun e => e ▸ h) id⟩
  · conv => rhs; rw [← List.take_append_drop (lowI l t) l]
    simp only [List.mem_append, List.mem_cons]
    constructor
    · rintro (h | h | h)
      · exact .inr (.inl h)
      · exact .inl h
      · exact .inr (.inr h)
    · rintro (h | h | h)
      · exact .inr (.inl h)
      · exact .inl h
      · exact .inr (.inr h)
theorem insT_srt {l : List Tm} (h : Srt l) (t : Tm) : Srt (insT l t) := by
  unfold insT
  split
  · exact h
  · rename_i hn
    obtain ⟨h1, h2⟩ := lowI_split h t
    refine h.ins h1 fun x hx => ?_
    have hne : x ≠ t := fun e => hn (e ▸ List.mem_of_mem_drop hx)
    exact (cmpT_ne hne).elim (fun hc => absurd hc (h2 x hx)) id
theorem insT_len (l : List Tm) (t : Tm) : (insT l t).length = if t ∈ l then l.length else l.length + 1 := by
  unfold insT
  split
  · rfl
  · rw [List.length_append, List.length_cons, List.length_take, List.length_drop]
    have := lowI_le l t
    omega
end Go.Proofs.YtlpkcbkflfbclaaDoor.S
