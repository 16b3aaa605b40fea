/- What is known, taken apart as far as can be. Plain Lean: no program in this text. -/
import Derived.Test.YtlpkcbkflfbclaaDoorTmSpec3
namespace Go.Proofs.YtlpkcbkflfbclaaDoor.S

/-- A set on its way: what came to it was had of what was there. -/
structure ApSt (l li : List Tm) (more : Bool) : Prop where
  srt : Srt li
  sup : ∀ x ∈ l, x ∈ li
  der : ∀ x ∈ li, Der (· ∈ l) x
  sub : ∀ x ∈ li, ∃ y ∈ l, x ∈ subs y
  len : l.length ≤ li.length
  no : more = false → li = l
  yes : more = true → l.length < li.length
theorem ApSt.start {l : List Tm} (h : Srt l) : ApSt l l false := ⟨h, fun _ h => h, fun _ h => .known h, fun x h => ⟨x, h, subs_self x⟩, Nat.le_refl _, fun _ => rfl, fun h => by cases h⟩
theorem ApSt.ins {l li : List Tm} {more r : Bool} {x : Tm} (h : ApSt l li more) (hd : Der (· ∈ l) x) (hs : ∃ y ∈ l, x ∈ subs y) (hr : r = decide (x ∉ li)) : ApSt l (insT li x) (r || more) ∧ (insT li x).length ≤ li.length + 1 := by
  have hl := insT_len li x
  refine ⟨⟨insT_srt h.srt x, fun y hy => insT_mem.2 (.inr (h.sup y hy)), fun y hy => ?_, fun y hy => ?_, ?_, fun hm => ?_, fun hm => ?_⟩, by rw [hl]; split <;> omega⟩
  · rcases insT_mem.1 hy with rfl | hy
    · exact hd
    · exact h.der y hy
  · rcases insT_mem.1 hy with rfl | hy
    · exact hs
    · exact h.sub y hy
  · have := h.len; rw [hl]; split <;> omega
  · rw [Bool.or_eq_false_iff, hr, decide_eq_false_iff_not, Decidable.not_not] at hm
    rw [insT, if_pos hm.1, h.no hm.2]
  · rw [Bool.or_eq_true, hr, decide_eq_true_iff] at hm
    rw [hl]
    rcases hm with hm | hm
    · rw [if_neg hm]; have := h.len; omega
    · have := h.yes hm; split <;> omega
/-- One round through a set: number i of it comes next. -/
structure ApInv (l : List Tm) (i : Nat) (li : List Tm) (more : Bool) : Prop where
  st : ApSt l li more
  len : li.length ≤ l.length + 2 * i
  cl : more = false → ∀ t ∈ l.take i, ClosedAt (· ∈ l) t
theorem ApInv.start {l : List Tm} (h : Srt l) : ApInv l 0 l false := ⟨.start h, by omega, fun _ t ht => by simp at ht⟩
theorem ApInv.next {l li li' : List Tm} {i : Nat} {more more' : Bool} {t : Tm} (h : ApInv l i li more) (ht : l[i]? = some t) (hs : ApSt l li' more') (hl : li'.length ≤ li.length + 2) (hm : more' = false → more = false) (hc : more' = false → ClosedAt (· ∈ l) t) : ApInv l (i + 1) li' more' := by
  refine ⟨hs, by have := h.len; omega, fun he u hu => ?_⟩
  rw [List.take_add_one, ht] at hu
  rcases List.mem_append.1 hu with hu | hu
  · exact h.cl (hm he) u hu
  · simp at hu; subst hu; exact hc he
theorem ApInv.other {l li : List Tm} {i : Nat} {more : Bool} {k : Int} {n : List UInt8} {ts : List Tm} (h : ApInv l i li more) (ht : l[i]? = some (.mk k n ts)) (h2 : k ≠ 2) (h8 : k ≠ 8) (h3 : k ≠ 3) : ApInv l (i + 1) li more :=
  h.next ht h.st (by omega) id fun _ => ⟨fun n a b he => by injection he with he; exact absurd he h2, fun n a b he => by injection he with he; exact absurd he h8, fun n a b he => by injection he with he; exact absurd he h3⟩
theorem ApInv.known {l li : List Tm} {i : Nat} {more : Bool} {t : Tm} (_ : ApInv l i li more) (ht : l[i]? = some t) : Der (· ∈ l) t := .known (List.mem_of_getElem? ht)
theorem ApInv.pair {l li : List Tm} {i : Nat} {more r1 r2 : Bool} {n : List UInt8} {a b : Tm} (h : ApInv l i li more) (ht : l[i]? = some (.mk 2 n [a, b])) (hr1 : r1 = decide (a ∉ li)) (hr2 : r2 = decide (b ∉ insT li a)) : ApInv l (i + 1) (insT (insT li a) b) (r2 || (r1 || more)) := by
  have hk := h.known ht
  have hm := List.mem_of_getElem? ht
  obtain ⟨s1, e1⟩ := h.st.ins (.fst hk) ⟨_, hm, subs_arg (by simp) (subs_self a)⟩ hr1
  obtain ⟨s2, e2⟩ := s1.ins (.snd hk) ⟨_, hm, subs_arg (by simp) (subs_self b)⟩ hr2
  refine h.next ht s2 (by omega) (fun he => by simp only [Bool.or_eq_false_iff] at he; exact he.2.2) fun he => ?_
  have hl := s2.no he
  have ha : a ∈ l := by rw [← hl]; exact insT_mem.2 (.inr (insT_mem.2 (.inl rfl)))
  have hb : b ∈ l := by rw [← hl]; exact insT_mem.2 (.inl rfl)
  exact ⟨fun n a' b' he => by injection he with _ _ he; simp at he; obtain ⟨rfl, rfl⟩ := he; exact ⟨ha, hb⟩, fun n a b he => by injection he with he; exact absurd he (by decide), fun n a b he => by injection he with he; exact absurd he (by decide)⟩
theorem ApInv.sign {l li : List Tm} {i : Nat} {more r : Bool} {n : List UInt8} {a b : Tm} (h : ApInv l i li more) (ht : l[i]? = some (.mk 8 n [a, b])) (hr : r = decide (b ∉ li)) : ApInv l (i + 1) (insT li b) (r || more) := by
  have hk := h.known ht
  have hm := List.mem_of_getElem? ht
  obtain ⟨s1, e1⟩ := h.st.ins (.sig hk) ⟨_, hm, subs_arg (by simp) (subs_self b)⟩ hr
  refine h.next ht s1 (by omega) (fun he => by simp only [Bool.or_eq_false_iff] at he; exact he.2) fun he => ?_
  have hb : b ∈ l := by rw [← s1.no he]; exact insT_mem.2 (.inl rfl)
  exact ⟨fun n a b he => by injection he with he; exact absurd he (by decide), fun n a' b' he => by injection he with _ _ he; simp at he; obtain ⟨rfl, rfl⟩ := he; exact hb, fun n a b he => by injection he with he; exact absurd he (by decide)⟩
theorem ApInv.seal1 {l li : List Tm} {i : Nat} {more r : Bool} {n : List UInt8} {a b : Tm} (h : ApInv l i li more) (ht : l[i]? = some (.mk 3 n [a, b])) (hmk : Mk (· ∈ li) a) (hr : r = decide (b ∉ li)) : ApInv l (i + 1) (insT li b) (r || more) := by
  have hk := h.known ht
  have hm := List.mem_of_getElem? ht
  have ha : Der (· ∈ l) a := hmk.der.cut fun t ht => h.st.der t ht
  obtain ⟨s1, e1⟩ := h.st.ins (.opn hk ha) ⟨_, hm, subs_arg (by simp) (subs_self b)⟩ hr
  refine h.next ht s1 (by omega) (fun he => by simp only [Bool.or_eq_false_iff] at he; exact he.2) fun he => ?_
  have hb : b ∈ l := by rw [← s1.no he]; exact insT_mem.2 (.inl rfl)
  exact ⟨fun n a b he => by injection he with he; exact absurd he (by decide), fun n a b he => by injection he with he; exact absurd he (by decide), fun n a' b' he => by injection he with _ _ he; simp at he; obtain ⟨rfl, rfl⟩ := he; exact .inl hb⟩
theorem ApInv.seal0 {l li : List Tm} {i : Nat} {more : Bool} {n : List UInt8} {a b : Tm} (h : ApInv l i li more) (ht : l[i]? = some (.mk 3 n [a, b])) (hmk : b ∈ li ∨ ¬ Mk (· ∈ li) a) : ApInv l (i + 1) li more := by
  refine h.next ht h.st (by omega) id fun he => ?_
  have hl := h.st.no he
  rw [hl] at hmk
  exact ⟨fun n a b he => by injection he with he; exact absurd he (by decide), fun n a b he => by injection he with he; exact absurd he (by decide), fun n a' b' he => by injection he with _ _ he; simp at he; obtain ⟨rfl, rfl⟩ := he; exact hmk⟩
theorem ApInv.closed {l li : List Tm} (h : ApInv l l.length li false) : li = l ∧ Closed (· ∈ l) := ⟨h.st.no rfl, fun t ht => h.cl rfl t (by rw [List.take_length]; exact ht)⟩

/-- What is known of what came: each term of l, and each one form of ts. -/
def Base (l ts : List Tm) (x : Tm) : Prop := x ∈ l ∨ ∃ t ∈ ts, x = nrm t
/-- What learning comes to: the error, and the set behind it. -/
inductive LearnR (l ts : List Tm) : Int → List Tm → Prop
  | ok {l' : List Tm} : (∀ t ∈ ts, chk t = 0) → Srt l' → (∀ x, Base l ts x → x ∈ l') → (∀ x ∈ l', Der (Base l ts) x) → (∀ x ∈ l', ∃ y, Base l ts y ∧ x ∈ subs y) → Closed (· ∈ l') → l'.length ≤ 4000 → (∀ x ∈ l', shp x = true) → LearnR l ts 0 l'
  | bad {i : Nat} {t : Tm} : ts[i]? = some t → (∀ u ∈ ts.take i, chk u = 0) → chk t ≠ 0 → LearnR l ts (chk t) l
  | full {m : List Tm} : (∀ t ∈ ts, chk t = 0) → m.Nodup → 4000 < m.length → (∀ x ∈ m, ∃ y, Base l ts y ∧ x ∈ subs y) → LearnR l ts 3 l
end Go.Proofs.YtlpkcbkflfbclaaDoor.S
