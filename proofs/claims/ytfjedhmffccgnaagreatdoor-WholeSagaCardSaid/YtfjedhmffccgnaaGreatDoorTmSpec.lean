/- Terms as they are thought of: their order, their parts, their one form. Plain Lean: no program in this text. The one form of a term: its shape, its parts. Plain Lean: no program in this text. What can be made of what is known: putting together, taking apart. Plain Lean: no program in this text. What is known, taken apart as far as can be. Plain Lean: no program in this text. What is known, in one word: what can be had of the one forms of what came. Plain Lean: no program in this text. -/
import Derived.Lib.Bytealg
import Derived.Sort.AssemblyPlain
namespace Go.Proofs.YtfjedhmffccgnaaGreatDoor.S
inductive Tm where
  | mk : Int → List UInt8 → List Tm → Tm
theorem Tm.ind {p : Tm → Prop} (h : ∀ k n as, (∀ a ∈ as, p a) → p (.mk k n as)) (t : Tm) : p t :=
 Tm.rec (motive_1 := p) (motive_2 := fun as => ∀ a ∈ as, p a) (fun k n as ih => h k n as ih) (fun a ha => by cases ha) (fun a as ih ihs b hb => (List.mem_cons.1 hb).elim (fun e => e ▸ ih) (ihs b)) t
instance : Inhabited Tm := ⟨.mk 0 [] []⟩
def cmpI (a b : Int) : Int := if a < b then -1 else if b < a then 1 else 0
def orI (a b : Int) : Int := if a ≠ 0 then a else b
abbrev cmpB := Go.Lib.compareBytes
mutual
def cmpT : Tm → Tm → Int
  | .mk k n as, .mk k' n' bs => orI (cmpI k k') (orI (cmpB n n') (orI (cmpI as.length bs.length) (cmpTs as bs)))
def cmpTs : List Tm → List Tm → Int
  | [], [] => 0
  | [], _ :: _ => -1
  | _ :: _, [] => 1
  | a :: as, b :: bs => orI (cmpT a b) (cmpTs as bs)
end
theorem cmpI_eq {a b : Int} : cmpI a b = 0 ↔ a = b := by unfold cmpI; split <;> (try split) <;> omega
theorem cmpI_neg (a b : Int) : cmpI b a = -cmpI a b := by unfold cmpI; split <;> split <;> (try split) <;> omega
theorem cmpI_range (a b : Int) : cmpI a b = -1 ∨ cmpI a b = 0 ∨ cmpI a b = 1 := by unfold cmpI; split <;> (try split) <;> omega
theorem orI_eq {a b : Int} : orI a b = 0 ↔ a = 0 ∧ b = 0 := by unfold orI; split <;> omega
theorem orI_neg {a b a' b' : Int} (h1 : a' = -a) (h2 : b' = -b) : orI a' b' = -orI a b := by unfold orI; split <;> split <;> omega
theorem orI_range {a b : Int} (h1 : a = -1 ∨ a = 0 ∨ a = 1) (h2 : b = -1 ∨ b = 0 ∨ b = 1) : orI a b = -1 ∨ orI a b = 0 ∨ orI a b = 1 := by unfold orI; split <;> omega
theorem cmpB_eq : ∀ {a b : List UInt8}, cmpB a b = 0 ↔ a = b
 | [], [] => by simp [cmpB, Go.Lib.compareBytes]
 | [], _ :: _ => by simp [cmpB, Go.Lib.compareBytes]
 | _ :: _, [] => by simp [cmpB, Go.Lib.compareBytes]
 | x :: a, y :: b => by
  have ih := @cmpB_eq a b
  unfold cmpB at ih ⊢
  unfold Go.Lib.compareBytes
  rw [List.cons.injEq]
  by_cases h1 : x < y
  ·
   rw [if_pos h1]
   have : x ≠ y := by rintro rfl; exact absurd h1 (UInt8.lt_irrefl x)
   simp [this]
  ·
   by_cases h2 : y < x
   ·
    rw [if_neg h1, if_pos h2]
    have : x ≠ y := by rintro rfl; exact absurd h2 (UInt8.lt_irrefl x)
    simp [this]
   ·
    rw [if_neg h1, if_neg h2, ih]
    have : x = y := UInt8.le_antisymm (UInt8.not_lt.1 h2) (UInt8.not_lt.1 h1)
    simp [this]
theorem cmpB_neg : ∀ (a b : List UInt8), cmpB b a = -cmpB a b
 | [], [] => rfl
 | [], _ :: _ => rfl
 | _ :: _, [] => rfl
 | x :: a, y :: b => by
  have ih := cmpB_neg a b
  unfold cmpB at ih ⊢
  unfold Go.Lib.compareBytes
  by_cases h1 : x < y
  · rw [if_pos h1, if_neg (UInt8.lt_asymm h1), if_pos h1]; rfl
  ·
   by_cases h2 : y < x
   · rw [if_pos h2, if_neg h1, if_pos h2]
   · rw [if_neg h2, if_neg h1, if_neg h1, if_neg h2, ih]
theorem cmpB_range : ∀ (a b : List UInt8), cmpB a b = -1 ∨ cmpB a b = 0 ∨ cmpB a b = 1
 | [], [] => by simp [cmpB, Go.Lib.compareBytes]
 | [], _ :: _ => by simp [cmpB, Go.Lib.compareBytes]
 | _ :: _, [] => by simp [cmpB, Go.Lib.compareBytes]
 | x :: a, y :: b => by
  have ih := cmpB_range a b
  unfold cmpB at ih ⊢
  unfold Go.Lib.compareBytes
  split
  · simp
  ·
   split
   · simp
   · exact ih
theorem cmpTs_facts (as : List Tm) (h : ∀ a ∈ as, ∀ b, (cmpT a b = 0 ↔ a = b) ∧ cmpT b a = -cmpT a b ∧ (cmpT a b = -1 ∨ cmpT a b = 0 ∨ cmpT a b = 1)) :
 ∀ bs, (cmpTs as bs = 0 ↔ as = bs) ∧ cmpTs bs as = -cmpTs as bs ∧ (cmpTs as bs = -1 ∨ cmpTs as bs = 0 ∨ cmpTs as bs = 1) := by
 induction as with
 | nil => intro bs; cases bs <;> simp [cmpTs]
 | cons a as ih =>
  intro bs
  cases bs with
  | nil => simp [cmpTs]
  | cons b bs =>
   obtain ⟨h1, h2, h3⟩ := h a (by simp) b
   obtain ⟨i1, i2, i3⟩ := ih (fun x hx => h x (by simp [hx])) bs
   rw [cmpTs, cmpTs]
   refine ⟨?_, orI_neg h2 i2, orI_range h3 i3⟩
   rw [orI_eq, h1, i1, List.cons.injEq]
theorem cmpT_facts (a : Tm) : ∀ b, (cmpT a b = 0 ↔ a = b) ∧ cmpT b a = -cmpT a b ∧ (cmpT a b = -1 ∨ cmpT a b = 0 ∨ cmpT a b = 1) := by
 induction a using Tm.ind with
 | h k n as ih =>
  rintro ⟨k', n', bs⟩
  obtain ⟨i1, i2, i3⟩ := cmpTs_facts as ih bs
  rw [cmpT, cmpT]
  refine ⟨?_, orI_neg (cmpI_neg ..) (orI_neg (cmpB_neg ..) (orI_neg (cmpI_neg ..) i2)), orI_range (cmpI_range ..) (orI_range (cmpB_range ..) (orI_range (cmpI_range ..) i3))⟩
  rw [orI_eq, orI_eq, orI_eq, cmpI_eq, cmpB_eq, cmpI_eq, i1, Tm.mk.injEq]
  constructor
  · rintro ⟨h1, h2, _, h4⟩; exact ⟨h1, h2, h4⟩
  · rintro ⟨h1, h2, h4⟩; exact ⟨h1, h2, by rw [h4], h4⟩
theorem cmpT_eq {a b : Tm} : cmpT a b = 0 ↔ a = b := (cmpT_facts a b).1
instance : DecidableEq Tm := fun _ _ => decidable_of_iff _ cmpT_eq
end Go.Proofs.YtfjedhmffccgnaaGreatDoor.S
namespace Go.Proofs.YtfjedhmffccgnaaGreatDoor.S
end Go.Proofs.YtfjedhmffccgnaaGreatDoor.S
namespace Go.Proofs.YtfjedhmffccgnaaGreatDoor.S
def pub (t : Tm) : Tm := .mk 5 [] [t]
section
variable {K K' : Tm → Prop}
end
end Go.Proofs.YtfjedhmffccgnaaGreatDoor.S
namespace Go.Proofs.YtfjedhmffccgnaaGreatDoor.S
end Go.Proofs.YtfjedhmffccgnaaGreatDoor.S
namespace Go.Proofs.YtfjedhmffccgnaaGreatDoor.S
section
variable {K : Tm → Prop} {s a : Tm} {n : List UInt8}
end
end Go.Proofs.YtfjedhmffccgnaaGreatDoor.S
