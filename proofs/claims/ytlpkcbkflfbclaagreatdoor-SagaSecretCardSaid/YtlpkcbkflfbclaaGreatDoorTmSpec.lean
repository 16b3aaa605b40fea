/- Terms as they are thought of: their order, their parts, their one form. Plain Lean: no program in this text. The one form of a term: its shape, its parts. Plain Lean: no program in this text. What can be made of what is known: putting together, taking apart. Plain Lean: no program in this text. What is known, taken apart as far as can be. Plain Lean: no program in this text. What is known, in one word: what can be had of the one forms of what came. Plain Lean: no program in this text. -/
import Derived.Lib.Bytealg
import Derived.Sort.AssemblyPlain
namespace Go.Proofs.YtlpkcbkflfbclaaGreatDoor.S

/-- A term: its kind, its name, its arguments. -/
inductive Tm where
  | mk : Int → List UInt8 → List Tm → Tm
def Tm.kind : Tm → Int | .mk k _ _ => k
theorem Tm.ind {p : Tm → Prop} (h : ∀ k n as, (∀ a ∈ as, p a) → p (.mk k n as)) (t : Tm) : p t :=
  Tm.rec (motive_1 := p) (motive_2 := fun as => ∀ a ∈ as, p a) (fun k n as ih => h k n as ih) (fun a ha => by cases ha) (fun a as ih ihs b hb => (List.mem_cons.1 hb).elim (fun e => e ▸ ih) (ihs b)) t
instance : Inhabited Tm := ⟨.mk 0 [] []⟩

/-! ### How great, how deep -/
mutual
def Tm.size : Tm → Nat
  | .mk _ _ as => tsize as + 1
def tsize : List Tm → Nat
  | [] => 0
  | t :: ts => t.size + tsize ts
end
mutual
def Tm.deep : Tm → Nat
  | .mk _ _ as => tdeep as
def tdeep : List Tm → Nat
  | [] => 0
  | t :: ts => max (t.deep + 1) (tdeep ts)
end
theorem Tm.size_pos (t : Tm) : 0 < t.size := by cases t; simp [Tm.size]
theorem tsize_mem : ∀ {ts : List Tm} {t : Tm}, t ∈ ts → t.size ≤ tsize ts
  | u :: ts, t, h => by
    rw [tsize]
    rcases List.mem_cons.1 h with rfl | h
    · omega
    · have := tsize_mem h; omega
theorem size_arg {k : Int} {n : List UInt8} {as : List Tm} {a : Tm} (h : a ∈ as) : a.size < (Tm.mk k n as).size := by
  have := tsize_mem h; rw [Tm.size]; omega
/-! ### Their order -/
def cmpI (a b : Int) : Int := if a < b then -1 else if b < a then 1 else 0
def orI (a b : Int) : Int := if a ≠ 0 then a else b
abbrev cmpB := Go.Lib.compareBytes
mutual
def cmpT : Tm → Tm → Int
  | .mk k n as, .mk k' n' bs => orI (cmpI k k') (orI (cmpB n n') (orI (cmpI as.length bs.length) (cmpTs as bs)))
def cmpTs : List Tm → List Tm → Int
  | [], [] => 0
  | [], _ :: _ => -1
  | _ :: _, [] => 1
  | a :: as, b :: bs => orI (cmpT a b) (cmpTs as bs)
end
theorem cmpI_lt {a b : Int} : cmpI a b < 0 ↔ a < b := by unfold cmpI; split <;> (try split) <;> omega
theorem cmpI_eq {a b : Int} : cmpI a b = 0 ↔ a = b := by unfold cmpI; split <;> (try split) <;> omega
theorem cmpI_neg (a b : Int) : cmpI b a = -cmpI a b := by unfold cmpI; split <;> split <;> (try split) <;> omega
theorem cmpI_range (a b : Int) : cmpI a b = -1 ∨ cmpI a b = 0 ∨ cmpI a b = 1 := by unfold cmpI; split <;> (try split) <;> omega
theorem orI_lt {a b : Int} : orI a b < 0 ↔ a < 0 ∨ (a = 0 ∧ b < 0) := by unfold orI; split <;> omega
theorem orI_eq {a b : Int} : orI a b = 0 ↔ a = 0 ∧ b = 0 := by unfold orI; split <;> omega
theorem orI_neg {a b a' b' : Int} (h1 : a' = -a) (h2 : b' = -b) : orI a' b' = -orI a b := by unfold orI; split <;> split <;> omega
theorem orI_range {a b : Int} (h1 : a = -1 ∨ a = 0 ∨ a = 1) (h2 : b = -1 ∨ b = 0 ∨ b = 1) : orI a b = -1 ∨ orI a b = 0 ∨ orI a b = 1 := by unfold orI; split <;> omega
theorem cmpB_eq : ∀ {a b : List UInt8}, cmpB a b = 0 ↔ a = b
  | [], [] => by simp [cmpB, Go.Lib.compareBytes]
  | [], _ :: _ => by simp [cmpB, Go.Lib.compareBytes]
  | _ :: _, [] => by simp [cmpB, Go.Lib.compareBytes]
  | x :: a, y :: b => by
    have ih := @cmpB_eq a b
    unfold cmpB at ih ⊢
    unfold Go.Lib.compareBytes
    rw [List.cons.injEq]
    by_cases h1 : x < y
    · rw [if_pos h1]
      have : x ≠ y := by rintro rfl; exact absurd h1 (UInt8.lt_irrefl x)
      simp [this]
    · by_cases h2 : y < x
      · rw [if_neg h1, if_pos h2]
        have : x ≠ y := by rintro rfl; exact absurd h2 (UInt8.lt_irrefl x)
        simp [this]
      · rw [if_neg h1, if_neg h2, ih]
        have : x = y := UInt8.le_antisymm (UInt8.not_lt.1 h2) (UInt8.not_lt.1 h1)
        simp [this]
theorem cmpB_neg : ∀ (a b : List UInt8), cmpB b a = -cmpB a b
  | [], [] => rfl
  | [], _ :: _ => rfl
  | _ :: _, [] => rfl
  | x :: a, y :: b => by
    have ih := cmpB_neg a b
    unfold cmpB at ih ⊢
    unfold Go.Lib.compareBytes
    by_cases h1 : x < y
    · rw [if_pos h1, if_neg (UInt8.lt_asymm h1), if_pos h1]; rfl
    · by_cases h2 : y < x
      · rw [if_pos h2, if_neg h1, if_pos h2]
      · rw [if_neg h2, if_neg h1, if_neg h1, if_neg h2, ih]
theorem cmpB_range : ∀ (a b : List UInt8), cmpB a b = -1 ∨ cmpB a b = 0 ∨ cmpB a b = 1
  | [], [] => by simp [cmpB, Go.Lib.compareBytes]
  | [], _ :: _ => by simp [cmpB, Go.Lib.compareBytes]
  | _ :: _, [] => by simp [cmpB, Go.Lib.compareBytes]
  | x :: a, y :: b => by
    have ih := cmpB_range a b
    unfold cmpB at ih ⊢
    unfold Go.Lib.compareBytes
    split
    · simp
    · split
      · simp
      · exact ih
theorem cmpB_trans : ∀ {a b c : List UInt8}, cmpB a b < 0 → cmpB b c < 0 → cmpB a c < 0
  | [], [], _, h, _ => by simp [cmpB, Go.Lib.compareBytes] at h
  | [], _ :: _, [], _, h => by simp [cmpB, Go.Lib.compareBytes] at h
  | [], _ :: _, _ :: _, _, _ => by simp [cmpB, Go.Lib.compareBytes]
  | _ :: _, [], _, h, _ => by simp [cmpB, Go.Lib.compareBytes] at h
  | _ :: _, _ :: _, [], _, h => by simp [cmpB, Go.Lib.compareBytes] at h
  | x :: a, y :: b, z :: c, h1, h2 => by
    have ih := @cmpB_trans a b c
    unfold cmpB at ih h1 h2 ⊢
    unfold Go.Lib.compareBytes at h1 h2 ⊢
    have hx : ∀ {p q : UInt8}, ¬ p < q → ¬ q < p → p = q := fun u v => UInt8.le_antisymm (UInt8.not_lt.1 v) (UInt8.not_lt.1 u)
    by_cases a1 : x < y
    · by_cases b1 : y < z
      · rw [if_pos (UInt8.lt_trans a1 b1)]; decide
      · by_cases b2 : z < y
        · rw [if_neg b1, if_pos b2] at h2; exact absurd h2 (by decide)
        · obtain rfl := hx b1 b2; rw [if_pos a1]; decide
    · by_cases a2 : y < x
      · rw [if_neg a1, if_pos a2] at h1; exact absurd h1 (by decide)
      · obtain rfl := hx a1 a2
        rw [if_neg a1, if_neg a2] at h1
        by_cases b1 : x < z
        · rw [if_pos b1]; decide
        · by_cases b2 : z < x
          · rw [if_neg b1, if_pos b2] at h2; exact absurd h2 (by decide)
          · rw [if_neg b1, if_neg b2] at h2 ⊢; exact ih h1 h2
theorem cmpTs_facts (as : List Tm) (h : ∀ a ∈ as, ∀ b, (cmpT a b = 0 ↔ a = b) ∧ cmpT b a = -cmpT a b ∧ (cmpT a b = -1 ∨ cmpT a b = 0 ∨ cmpT a b = 1)) :
    ∀ bs, (cmpTs as bs = 0 ↔ as = bs) ∧ cmpTs bs as = -cmpTs as bs ∧ (cmpTs as bs = -1 ∨ cmpTs as bs = 0 ∨ cmpTs as bs = 1) := by
  induction as with
  | nil => intro bs; cases bs <;> simp [cmpTs]
  | cons a as ih =>
    intro bs
    cases bs with
    | nil => simp [cmpTs]
    | cons b bs =>
      obtain ⟨h1, h2, h3⟩ := h a (by simp) b
      obtain ⟨i1, i2, i3⟩ := ih (fun x hx => h x (by simp [hx])) bs
      rw [cmpTs, cmpTs]
      refine ⟨?_, orI_neg h2 i2, orI_range h3 i3⟩
      rw [orI_eq, h1, i1, List.cons.injEq]
theorem cmpT_facts (a : Tm) : ∀ b, (cmpT a b = 0 ↔ a = b) ∧ cmpT b a = -cmpT a b ∧ (cmpT a b = -1 ∨ cmpT a b = 0 ∨ cmpT a b = 1) := by
  induction a using Tm.ind with
  | h k n as ih =>
    rintro ⟨k', n', bs⟩
    obtain ⟨i1, i2, i3⟩ := cmpTs_facts as ih bs
    rw [cmpT, cmpT]
    refine ⟨?_, orI_neg (cmpI_neg ..) (orI_neg (cmpB_neg ..) (orI_neg (cmpI_neg ..) i2)), orI_range (cmpI_range ..) (orI_range (cmpB_range ..) (orI_range (cmpI_range ..) i3))⟩
    rw [orI_eq, orI_eq, orI_eq, cmpI_eq, cmpB_eq, cmpI_eq, i1, Tm.mk.injEq]
    constructor
    · rintro ⟨h1, h2, _, h4⟩; exact ⟨h1, h2, h4⟩
    · rintro ⟨h1, h2, h4⟩; exact ⟨h1, h2, by rw [h4], h4⟩
theorem cmpT_eq {a b : Tm} : cmpT a b = 0 ↔ a = b := (cmpT_facts a b).1
theorem cmpT_neg (a b : Tm) : cmpT b a = -cmpT a b := (cmpT_facts a b).2.1
theorem cmpT_self (a : Tm) : cmpT a a = 0 := cmpT_eq.2 rfl
theorem cmpTs_trans (as : List Tm) (h : ∀ a ∈ as, ∀ b c, cmpT a b < 0 → cmpT b c < 0 → cmpT a c < 0) : ∀ bs cs, cmpTs as bs < 0 → cmpTs bs cs < 0 → cmpTs as cs < 0 := by
  induction as with
  | nil =>
    intro bs cs h1 h2
    cases bs with
    | nil => simp [cmpTs] at h1
    | cons b bs => cases cs with
      | nil => simp [cmpTs] at h2
      | cons c cs => simp [cmpTs]
  | cons a as ih =>
    intro bs cs h1 h2
    cases bs with
    | nil => simp [cmpTs] at h1
    | cons b bs => cases cs with
      | nil => simp [cmpTs] at h2
      | cons c cs =>
        rw [cmpTs, orI_lt] at h1 h2 ⊢
        rw [cmpT_eq] at h1 h2
        rw [cmpT_eq]
        have hs := ih (fun x hx => h x (by simp [hx])) bs cs
        rcases h1 with h1 | ⟨rfl, h1⟩
        · rcases h2 with h2 | ⟨rfl, h2⟩
          · exact .inl (h a (by simp) b c h1 h2)
          · exact .inl h1
        · rcases h2 with h2 | ⟨rfl, h2⟩
          · exact .inl h2
          · exact .inr ⟨rfl, hs h1 h2⟩
theorem cmpT_lt {k k' : Int} {n n' : List UInt8} {as bs : List Tm} : cmpT (.mk k n as) (.mk k' n' bs) < 0 ↔ k < k' ∨ (k = k' ∧ (cmpB n n' < 0 ∨ (n = n' ∧ (as.length < bs.length ∨ (as.length = bs.length ∧ cmpTs as bs < 0))))) := by
  rw [cmpT, orI_lt, orI_lt, orI_lt, cmpI_lt, cmpI_eq, cmpB_eq, cmpI_lt, cmpI_eq]
  simp only [Int.ofNat_lt, Int.ofNat_inj]
theorem cmpT_trans {a b c : Tm} : cmpT a b < 0 → cmpT b c < 0 → cmpT a c < 0 := by
  revert b c
  induction a using Tm.ind with
  | h k n as ih =>
    rintro ⟨k', n', bs⟩ ⟨k'', n'', cs⟩ h1 h2
    rw [cmpT_lt] at h1 h2 ⊢
    have hs := cmpTs_trans as (fun a ha b c => ih a ha) bs cs
    rcases h1 with h1 | ⟨rfl, h1⟩
    · rcases h2 with h2 | ⟨rfl, h2⟩ <;> (left; omega)
    · rcases h2 with h2 | ⟨rfl, h2⟩
      · left; omega
      · refine .inr ⟨rfl, ?_⟩
        rcases h1 with h1 | ⟨rfl, h1⟩
        · rcases h2 with h2 | ⟨rfl, h2⟩
          · exact .inl (cmpB_trans h1 h2)
          · exact .inl h1
        · rcases h2 with h2 | ⟨rfl, h2⟩
          · exact .inl h2
          · refine .inr ⟨rfl, ?_⟩
            rcases h1 with h1 | ⟨h1, h1'⟩
            · rcases h2 with h2 | ⟨h2, _⟩ <;> (left; omega)
            · rcases h2 with h2 | ⟨h2, h2'⟩
              · left; omega
              · exact .inr ⟨by omega, hs h1' h2'⟩
instance : DecidableEq Tm := fun _ _ => decidable_of_iff _ cmpT_eq
theorem cmpT_ne {a b : Tm} (h : a ≠ b) : cmpT a b < 0 ∨ cmpT b a < 0 := by
  have h0 : cmpT a b ≠ 0 := fun he => h (cmpT_eq.1 he)
  have := cmpT_neg a b; omega
/-! ### Lists in their order -/
def Srt (l : List Tm) : Prop := l.Pairwise fun a b => cmpT a b < 0
theorem Srt.nodup {l : List Tm} (h : Srt l) : l.Nodup := h.imp fun {a b} hab he => by subst he; rw [cmpT_self] at hab; omega
/-- Where a term stands in such a list, or would stand. -/
theorem Srt.ins {l : List Tm} {t : Tm} {i : Nat} (h : Srt l) (h1 : ∀ x ∈ l.take i, cmpT x t < 0) (h2 : ∀ x ∈ l.drop i, cmpT t x < 0) : Srt (l.take i ++ t :: l.drop i) := by
  unfold Srt at h ⊢
  rw [← List.take_append_drop i l, List.pairwise_append] at h
  rw [List.pairwise_append, List.pairwise_cons]
  refine ⟨h.1, ⟨h2, h.2.1⟩, fun a ha b hb => ?_⟩
  rcases List.mem_cons.1 hb with rfl | hb
  · exact h1 a ha
  · exact h.2.2 a ha b hb

/-! ### Their parts -/
mutual
def subs : Tm → List Tm
  | .mk k n as => .mk k n as :: subsL as
def subsL : List Tm → List Tm
  | [] => []
  | t :: ts => subs t ++ subsL ts
end
theorem subs_self (t : Tm) : t ∈ subs t := by cases t; simp [subs]
theorem mem_subsL {x : Tm} : ∀ {as : List Tm}, x ∈ subsL as ↔ ∃ a ∈ as, x ∈ subs a
  | [] => by simp [subsL]
  | a :: as => by rw [subsL, List.mem_append, mem_subsL]; simp
theorem mem_subs {x : Tm} {k : Int} {n : List UInt8} {as : List Tm} : x ∈ subs (.mk k n as) ↔ x = .mk k n as ∨ ∃ a ∈ as, x ∈ subs a := by rw [subs, List.mem_cons, mem_subsL]
theorem subs_arg {k : Int} {n : List UInt8} {as : List Tm} {a x : Tm} (ha : a ∈ as) (h : x ∈ subs a) : x ∈ subs (.mk k n as) := mem_subs.2 (.inr ⟨a, ha, h⟩)
theorem subs_trans {x y z : Tm} (h1 : x ∈ subs y) (h2 : y ∈ subs z) : x ∈ subs z := by
  induction z using Tm.ind with
  | h k n as ih =>
    rcases mem_subs.1 h2 with rfl | ⟨a, ha, h2⟩
    · exact h1
    · exact subs_arg ha (ih a ha h2)
mutual
/-- The parts as they are met. -/
def prt : Tm → List Tm → List Tm
  | .mk k n as, out => if .mk k n as ∈ out then out else prtL as (out ++ [.mk k n as])
def prtL : List Tm → List Tm → List Tm
  | [], out => out
  | t :: ts, out => prtL ts (prt t out)
end
/-! ### Which are terms -/
def lowS : List UInt8 := [97, 98, 99, 100, 101, 102, 103, 104, 105, 106, 107, 108, 109, 110, 111, 112, 113, 114, 115, 116, 117, 118, 119, 120, 121, 122, 48, 49, 50, 51, 52, 53, 54, 55, 56, 57]
def low (x : UInt8) : Bool := lowS.contains x
def named (s : List UInt8) : Bool := !s.isEmpty && decide (s.length ≤ 20) && s.all low
def least (k : Int) : Nat := if k = 1 then 0 else if k = 4 ∨ k = 5 then 1 else if k = 2 ∨ k = 3 ∨ k = 6 ∨ k = 7 ∨ k = 8 then 2 else 1
def most (k : Int) : Nat := if k = 1 then 0 else if k = 4 then 4 else if k = 5 then 1 else if k = 2 ∨ k = 3 ∨ k = 6 ∨ k = 7 ∨ k = 8 then 2 else 0
/-- Is a term's head right? -/
def headOk (k : Int) (n : List UInt8) (len : Nat) : Bool :=
  !(decide (len < least k) || decide (most k < len) || ((decide (k = 1) || decide (k = 4)) != named n) || (decide (k ≠ 1) && decide (k ≠ 4) && !n.isEmpty))
mutual
def shp : Tm → Bool
  | .mk k n as => headOk k n as.length && shpL as
def shpL : List Tm → Bool
  | [] => true
  | t :: ts => shp t && shpL ts
end
theorem shpL_iff {ts : List Tm} : shpL ts = true ↔ ∀ t ∈ ts, shp t = true := by
  induction ts with
  | nil => simp [shpL]
  | cons t ts ih => rw [shpL, Bool.and_eq_true, ih]; simp
theorem shp_mk {k : Int} {n : List UInt8} {as : List Tm} : shp (.mk k n as) = true ↔ headOk k n as.length = true ∧ ∀ a ∈ as, shp a = true := by rw [shp, Bool.and_eq_true, shpL_iff]
theorem shp_sub {x t : Tm} (h : shp t = true) (hx : x ∈ subs t) : shp x = true := by
  induction t using Tm.ind with
  | h k n as ih =>
    rcases mem_subs.1 hx with rfl | ⟨a, ha, hx⟩
    · exact h
    · exact ih a ha ((shp_mk.1 h).2 a ha) hx
/-- The error of a term: 0, too great, none. -/
def chk (t : Tm) : Int := if 1000 < t.size ∨ 24 < t.deep then 2 else if shp t then 0 else 190
theorem chk_shp {t : Tm} (h : chk t = 0) : shp t = true := by
  unfold chk at h
  split at h
  · cases h
  · split at h
    · assumption
    · cases h
theorem chk_iff {t : Tm} : chk t = 0 ↔ t.size ≤ 1000 ∧ t.deep ≤ 24 ∧ shp t = true := by
  unfold chk
  split
  · simp; omega
  · split
    · simp [*]; omega
    · simp [*]
theorem headOk_two {k : Int} {n : List UInt8} {len : Nat} (h : headOk k n len = true) (hk : k = 2 ∨ k = 3 ∨ k = 6 ∨ k = 7 ∨ k = 8) : len = 2 ∧ n = [] := by
  unfold headOk at h
  have h4 : k ≠ 4 := by omega
  have h1 : k ≠ 1 := by omega
  have h5 : k ≠ 5 := by omega
  have hl : least k = 2 := by unfold least; rw [if_neg h1, if_neg (by omega), if_pos hk]
  have hm : most k = 2 := by unfold most; rw [if_neg h1, if_neg h4, if_neg h5, if_pos hk]
  rw [hl, hm] at h
  simp [h1, h4] at h
  exact ⟨by omega, h.2⟩
theorem headOk_five {n : List UInt8} {len : Nat} (h : headOk 5 n len = true) : len = 1 ∧ n = [] := by
  unfold headOk at h
  simp [least, most] at h
  exact ⟨by omega, h.2⟩
theorem headOk_one {n : List UInt8} {len : Nat} (h : headOk 1 n len = true) : len = 0 ∧ named n = true := by
  unfold headOk at h
  simp [least, most] at h
  exact ⟨h.1, h.2⟩
theorem headOk_four {n : List UInt8} {len : Nat} (h : headOk 4 n len = true) : 1 ≤ len ∧ len ≤ 4 ∧ named n = true := by
  unfold headOk at h
  simp [least, most] at h
  exact ⟨by omega, h.1.2, h.2⟩
theorem headOk_kinds {k : Int} {n : List UInt8} {len : Nat} (h : headOk k n len = true) : k = 1 ∨ k = 2 ∨ k = 3 ∨ k = 4 ∨ k = 5 ∨ k = 6 ∨ k = 7 ∨ k = 8 := by
  by_cases hk : k = 1 ∨ k = 2 ∨ k = 3 ∨ k = 4 ∨ k = 5 ∨ k = 6 ∨ k = 7 ∨ k = 8
  · exact hk
  · exfalso
    unfold headOk at h
    have hl : least k = 1 := by unfold least; rw [if_neg (by omega), if_neg (by omega), if_neg (by omega)]
    have hm : most k = 0 := by unfold most; rw [if_neg (by omega), if_neg (by omega), if_neg (by omega), if_neg (by omega)]
    rw [hl, hm] at h
    simp at h

/-! ### Their one form -/
/-- Two in their order. -/
def two : List Tm → List Tm
  | [a, b] => if cmpT b a < 0 then [b, a] else [a, b]
  | l => l
def nrm1 (k : Int) (n : List UInt8) (bs : List Tm) : Tm :=
  match bs with
  | [a, .mk 5 m [c]] => if k = 7 then .mk 6 [] (two [a, c]) else if k = 6 then .mk 6 n (two [a, .mk 5 m [c]]) else .mk k n [a, .mk 5 m [c]]
  | l => if k = 6 then .mk 6 n (two l) else .mk k n l
mutual
def nrm : Tm → Tm
  | .mk k n as => nrm1 k n (nrmL as)
def nrmL : List Tm → List Tm
  | [] => []
  | t :: ts => nrm t :: nrmL ts
end
theorem nrmL_map (ts : List Tm) : nrmL ts = ts.map nrm := by
  induction ts with
  | nil => rfl
  | cons t ts ih => rw [nrmL, ih, List.map_cons]
end Go.Proofs.YtlpkcbkflfbclaaGreatDoor.S

namespace Go.Proofs.YtlpkcbkflfbclaaGreatDoor.S

theorem headOk_le4 {k : Int} {n : List UInt8} {len : Nat} (h : headOk k n len = true) : len ≤ 4 := by
  rcases headOk_kinds h with rfl | rfl | rfl | rfl | rfl | rfl | rfl | rfl
  · have := (headOk_one h).1; omega
  · have := (headOk_two h (by decide)).1; omega
  · have := (headOk_two h (by decide)).1; omega
  · have := (headOk_four h).2.1; omega
  · have := (headOk_five h).1; omega
  · have := (headOk_two h (by decide)).1; omega
  · have := (headOk_two h (by decide)).1; omega
  · have := (headOk_two h (by decide)).1; omega
theorem nrm1_else {k : Int} {n : List UInt8} {l : List Tm} (h7 : k ≠ 7) (h6 : k ≠ 6) : nrm1 k n l = .mk k n l := by
  unfold nrm1; split <;> simp [h7, h6]
theorem nrm1_six {n : List UInt8} {l : List Tm} : nrm1 6 n l = .mk 6 n (two l) := by
  unfold nrm1; split <;> simp
theorem nrm1_pub {n m : List UInt8} {a c : Tm} : nrm1 7 n [a, .mk 5 m [c]] = .mk 6 [] (two [a, c]) := by simp [nrm1]
theorem nrm1_seven {n : List UInt8} {a b : Tm} (h : b.kind ≠ 5) : nrm1 7 n [a, b] = .mk 7 n [a, b] := by
  unfold nrm1
  split
  · rename_i heq
    obtain ⟨rfl, rfl⟩ : _ ∧ b = _ := by simpa using heq
    exact absurd rfl h
  · simp
theorem two_mem {l : List Tm} {x : Tm} : x ∈ two l ↔ x ∈ l := by
  unfold two
  split
  · split <;> simp [or_comm]
  · rfl
theorem two_len (l : List Tm) : (two l).length = l.length := by
  unfold two
  split
  · split <;> rfl
  · rfl
theorem nrmL_len (ts : List Tm) : (nrmL ts).length = ts.length := by rw [nrmL_map, List.length_map]
theorem shp_nrm (x : Tm) (h : shp x = true) : shp (nrm x) = true := by
  induction x using Tm.ind with
  | h k n ts ih =>
    obtain ⟨h1, h2⟩ := shp_mk.1 h
    have hl : ∀ a ∈ nrmL ts, shp a = true := by
      intro a ha
      rw [nrmL_map] at ha
      obtain ⟨b, hb, rfl⟩ := List.mem_map.1 ha
      exact ih b hb (h2 b hb)
    rw [nrm]
    by_cases h7 : k = 7
    · subst h7
      obtain ⟨hlen, rfl⟩ := headOk_two h1 (by decide)
      match ts, hlen, hl with
      | [p, q], _, hl =>
        have hp := hl (nrm p) (by simp [nrmL])
        have hq := hl (nrm q) (by simp [nrmL])
        have e : nrmL [p, q] = [nrm p, nrm q] := rfl
        rw [e]
        generalize nrm p = p' at *
        generalize hq' : nrm q = q' at *
        obtain ⟨kq, nq, aq⟩ := q'
        by_cases h5 : kq = 5
        · subst h5
          obtain ⟨g1, g2⟩ := shp_mk.1 hq
          obtain ⟨gl, rfl⟩ := headOk_five g1
          obtain ⟨c, rfl⟩ := List.length_eq_one_iff.1 gl
          rw [nrm1_pub, shp_mk]
          refine ⟨by rw [two_len]; exact (show headOk 6 [] 2 = true by decide), fun a ha => ?_⟩
          rw [two_mem] at ha
          rcases List.mem_cons.1 ha with rfl | ha
          · exact hp
          · rw [List.mem_singleton] at ha; subst ha; exact g2 _ (by simp)
        · rw [nrm1_seven (b := .mk kq nq aq) h5, shp_mk]
          refine ⟨(show headOk 7 [] 2 = true by decide), fun a ha => ?_⟩
          rcases List.mem_cons.1 ha with rfl | ha
          · exact hp
          · rw [List.mem_singleton] at ha; subst ha; exact hq
    · by_cases h6 : k = 6
      · subst h6
        rw [nrm1_six, shp_mk]
        exact ⟨by rw [two_len, nrmL_len]; exact h1, fun a ha => hl a (two_mem.1 ha)⟩
      · rw [nrm1_else h7 h6, shp_mk]
        exact ⟨by rw [nrmL_len]; exact h1, hl⟩
end Go.Proofs.YtlpkcbkflfbclaaGreatDoor.S

namespace Go.Proofs.YtlpkcbkflfbclaaGreatDoor.S

/-- The public key of a secret one. -/
def pub (t : Tm) : Tm := .mk 5 [] [t]
/-- Put together of what is known. -/
inductive Mk (K : Tm → Prop) : Tm → Prop
  | known {t : Tm} : K t → Mk K t
  | comp {k : Int} {n : List UInt8} {ts : List Tm} : k ≠ 1 → k ≠ 6 → (∀ a ∈ ts, Mk K a) → Mk K (.mk k n ts)
  | sh1 {n : List UInt8} {a b : Tm} : Mk K a → Mk K (pub b) → Mk K (.mk 6 n [a, b])
  | sh2 {n : List UInt8} {a b : Tm} : Mk K b → Mk K (pub a) → Mk K (.mk 6 n [a, b])
/-- Had by putting together and taking apart. -/
inductive Der (K : Tm → Prop) : Tm → Prop
  | known {t : Tm} : K t → Der K t
  | comp {k : Int} {n : List UInt8} {ts : List Tm} : k ≠ 1 → k ≠ 6 → (∀ a ∈ ts, Der K a) → Der K (.mk k n ts)
  | sh1 {n : List UInt8} {a b : Tm} : Der K a → Der K (pub b) → Der K (.mk 6 n [a, b])
  | sh2 {n : List UInt8} {a b : Tm} : Der K b → Der K (pub a) → Der K (.mk 6 n [a, b])
  | fst {n : List UInt8} {a b : Tm} : Der K (.mk 2 n [a, b]) → Der K a
  | snd {n : List UInt8} {a b : Tm} : Der K (.mk 2 n [a, b]) → Der K b
  | sig {n : List UInt8} {a b : Tm} : Der K (.mk 8 n [a, b]) → Der K b
  | opn {n : List UInt8} {a b : Tm} : Der K (.mk 3 n [a, b]) → Der K a → Der K b
/-- Nothing more comes of taking apart this one. -/
def ClosedAt (K : Tm → Prop) (t : Tm) : Prop :=
  (∀ n a b, t = .mk 2 n [a, b] → K a ∧ K b) ∧ (∀ n a b, t = .mk 8 n [a, b] → K b) ∧ (∀ n a b, t = .mk 3 n [a, b] → K b ∨ ¬ Mk K a)
def Closed (K : Tm → Prop) : Prop := ∀ t, K t → ClosedAt K t

section
variable {K K' : Tm → Prop}
theorem Mk.der {t : Tm} (h : Mk K t) : Der K t := by
  induction h with
  | known h => exact .known h
  | comp h1 h2 _ ih => exact .comp h1 h2 ih
  | sh1 _ _ i1 i2 => exact .sh1 i1 i2
  | sh2 _ _ i1 i2 => exact .sh2 i1 i2
theorem Mk.mono (hK : ∀ t, K t → K' t) {t : Tm} (h : Mk K t) : Mk K' t := by
  induction h with
  | known h => exact .known (hK _ h)
  | comp h1 h2 _ ih => exact .comp h1 h2 ih
  | sh1 _ _ i1 i2 => exact .sh1 i1 i2
  | sh2 _ _ i1 i2 => exact .sh2 i1 i2
/-- What is had of what is had is had. -/
theorem Der.cut (hK : ∀ t, K' t → Der K t) {t : Tm} (h : Der K' t) : Der K t := by
  induction h with
  | known h => exact hK _ h
  | comp h1 h2 _ ih => exact .comp h1 h2 ih
  | sh1 _ _ i1 i2 => exact .sh1 i1 i2
  | sh2 _ _ i1 i2 => exact .sh2 i1 i2
  | fst _ ih => exact .fst ih
  | snd _ ih => exact .snd ih
  | sig _ ih => exact .sig ih
  | opn _ _ i1 i2 => exact .opn i1 i2
theorem Der.mono (hK : ∀ t, K t → K' t) {t : Tm} (h : Der K t) : Der K' t := h.cut fun t ht => .known (hK t ht)
theorem Mk.atom_iff {n : List UInt8} {ts : List Tm} : Mk K (.mk 1 n ts) ↔ K (.mk 1 n ts) := by
  constructor
  · intro h
    cases h with
    | known h => exact h
    | comp h1 _ _ => exact absurd rfl h1
  · exact .known
theorem Mk.six_iff {n : List UInt8} {a b : Tm} : Mk K (.mk 6 n [a, b]) ↔ K (.mk 6 n [a, b]) ∨ (Mk K a ∧ Mk K (pub b)) ∨ (Mk K b ∧ Mk K (pub a)) := by
  constructor
  · intro h
    cases h with
    | known h => exact .inl h
    | comp _ h2 _ => exact absurd rfl h2
    | sh1 h1 h2 => exact .inr (.inl ⟨h1, h2⟩)
    | sh2 h1 h2 => exact .inr (.inr ⟨h1, h2⟩)
  · rintro (h | ⟨h1, h2⟩ | ⟨h1, h2⟩)
    · exact .known h
    · exact .sh1 h1 h2
    · exact .sh2 h1 h2
theorem Mk.comp_iff {k : Int} {n : List UInt8} {ts : List Tm} (h1 : k ≠ 1) (h6 : k ≠ 6) : Mk K (.mk k n ts) ↔ K (.mk k n ts) ∨ ∀ a ∈ ts, Mk K a := by
  constructor
  · intro h
    cases h with
    | known h => exact .inl h
    | comp _ _ h => exact .inr h
    | sh1 _ _ => exact absurd rfl h6
    | sh2 _ _ => exact absurd rfl h6
  · rintro (h | h)
    · exact .known h
    · exact .comp h1 h6 h
/-- What is taken apart as far as can be: then all that is had is put together. -/
theorem Closed.der {t : Tm} (hc : Closed K) (h : Der K t) : Mk K t := by
  induction h with
  | known h => exact .known h
  | comp h1 h2 _ ih => exact .comp h1 h2 ih
  | sh1 _ _ i1 i2 => exact .sh1 i1 i2
  | sh2 _ _ i1 i2 => exact .sh2 i1 i2
  | fst _ ih =>
    rcases (Mk.comp_iff (by decide) (by decide)).1 ih with h | h
    · exact .known ((hc _ h).1 _ _ _ rfl).1
    · exact h _ (by simp)
  | snd _ ih =>
    rcases (Mk.comp_iff (by decide) (by decide)).1 ih with h | h
    · exact .known ((hc _ h).1 _ _ _ rfl).2
    · exact h _ (by simp)
  | sig _ ih =>
    rcases (Mk.comp_iff (by decide) (by decide)).1 ih with h | h
    · exact .known ((hc _ h).2.1 _ _ _ rfl)
    · exact h _ (by simp)
  | opn _ _ i1 i2 =>
    rcases (Mk.comp_iff (by decide) (by decide)).1 i1 with h | h
    · rcases (hc _ h).2.2 _ _ _ rfl with h' | h'
      · exact .known h'
      · exact absurd i2 h'
    · exact h _ (by simp)
end

/-! ### Sets as lists -/
/-- A term put in where it belongs. -/
def lowI (l : List Tm) (t : Tm) : Nat := l.countP (fun x => decide (cmpT x t < 0))
theorem lowI_of {l : List Tm} {t : Tm} {i : Nat} (hi : i ≤ l.length) (h1 : ∀ x ∈ l.take i, cmpT x t < 0) (h2 : ∀ x ∈ l.drop i, ¬ cmpT x t < 0) : i = lowI l t := by
  unfold lowI
  conv => rhs; rw [← List.take_append_drop i l]
  rw [List.countP_append, List.countP_eq_length.2 (fun x hx => by simpa using h1 x hx), List.countP_eq_zero.2 (fun x hx => by simpa using h2 x hx), List.length_take]
  omega
theorem lowI_le (l : List Tm) (t : Tm) : lowI l t ≤ l.length := List.countP_le_length
theorem lowI_split {l : List Tm} (h : Srt l) (t : Tm) : (∀ x ∈ l.take (lowI l t), cmpT x t < 0) ∧ ∀ x ∈ l.drop (lowI l t), ¬ cmpT x t < 0 := by
  unfold lowI
  induction l with
  | nil => simp
  | cons a l ih =>
    have hl : Srt l := (List.pairwise_cons.1 h).2
    have ha := (List.pairwise_cons.1 h).1
    obtain ⟨i1, i2⟩ := ih hl
    by_cases hc : cmpT a t < 0
    · rw [List.countP_cons_of_pos (by simpa using hc)]
      refine ⟨fun x hx => ?_, fun x hx => i2 x (by simpa using hx)⟩
      rw [List.take_succ_cons] at hx
      rcases List.mem_cons.1 hx with rfl | hx
      · exact hc
      · exact i1 x hx
    · rw [List.countP_cons_of_neg (by simpa using hc)]
      have h0 : l.countP (fun x => decide (cmpT x t < 0)) = 0 := by
        rw [List.countP_eq_zero]
        intro x hx
        have := ha x hx
        simp only [decide_eq_true_iff]
        intro hx2
        exact hc (cmpT_trans this hx2)
      rw [h0]
      refine ⟨fun x hx => by simp at hx, fun x hx => ?_⟩
      rw [List.drop_zero] at hx
      rcases List.mem_cons.1 hx with rfl | hx
      · exact hc
      · intro hx2; exact hc (cmpT_trans (ha x hx) hx2)
def insT (l : List Tm) (t : Tm) : List Tm := if t ∈ l then l else l.take (lowI l t) ++ t :: l.drop (lowI l t)
theorem insT_mem {l : List Tm} {t x : Tm} : x ∈ insT l t ↔ x = t ∨ x ∈ l := by
  unfold insT
  split
  · rename_i h
    exact ⟨.inr, fun h' => h'.elim (fun e => e ▸ h) id⟩
  · conv => rhs; rw [← List.take_append_drop (lowI l t) l]
    simp only [List.mem_append, List.mem_cons]
    constructor
    · rintro (h | h | h)
      · exact .inr (.inl h)
      · exact .inl h
      · exact .inr (.inr h)
    · rintro (h | h | h)
      · exact .inr (.inl h)
      · exact .inl h
      · exact .inr (.inr h)
theorem insT_srt {l : List Tm} (h : Srt l) (t : Tm) : Srt (insT l t) := by
  unfold insT
  split
  · exact h
  · rename_i hn
    obtain ⟨h1, h2⟩ := lowI_split h t
    refine h.ins h1 fun x hx => ?_
    have hne : x ≠ t := fun e => hn (e ▸ List.mem_of_mem_drop hx)
    exact (cmpT_ne hne).elim (fun hc => absurd hc (h2 x hx)) id
theorem insT_len (l : List Tm) (t : Tm) : (insT l t).length = if t ∈ l then l.length else l.length + 1 := by
  unfold insT
  split
  · rfl
  · rw [List.length_append, List.length_cons, List.length_take, List.length_drop]
    have := lowI_le l t
    omega
end Go.Proofs.YtlpkcbkflfbclaaGreatDoor.S

namespace Go.Proofs.YtlpkcbkflfbclaaGreatDoor.S

/-- A set on its way: what came to it was had of what was there. -/
structure ApSt (l li : List Tm) (more : Bool) : Prop where
  srt : Srt li
  sup : ∀ x ∈ l, x ∈ li
  der : ∀ x ∈ li, Der (· ∈ l) x
  sub : ∀ x ∈ li, ∃ y ∈ l, x ∈ subs y
  len : l.length ≤ li.length
  no : more = false → li = l
  yes : more = true → l.length < li.length
theorem ApSt.start {l : List Tm} (h : Srt l) : ApSt l l false := ⟨h, fun _ h => h, fun _ h => .known h, fun x h => ⟨x, h, subs_self x⟩, Nat.le_refl _, fun _ => rfl, fun h => by cases h⟩
theorem ApSt.ins {l li : List Tm} {more r : Bool} {x : Tm} (h : ApSt l li more) (hd : Der (· ∈ l) x) (hs : ∃ y ∈ l, x ∈ subs y) (hr : r = decide (x ∉ li)) : ApSt l (insT li x) (r || more) ∧ (insT li x).length ≤ li.length + 1 := by
  have hl := insT_len li x
  refine ⟨⟨insT_srt h.srt x, fun y hy => insT_mem.2 (.inr (h.sup y hy)), fun y hy => ?_, fun y hy => ?_, ?_, fun hm => ?_, fun hm => ?_⟩, by rw [hl]; split <;> omega⟩
  · rcases insT_mem.1 hy with rfl | hy
    · exact hd
    · exact h.der y hy
  · rcases insT_mem.1 hy with rfl | hy
    · exact hs
    · exact h.sub y hy
  · have := h.len; rw [hl]; split <;> omega
  · rw [Bool.or_eq_false_iff, hr, decide_eq_false_iff_not, Decidable.not_not] at hm
    rw [insT, if_pos hm.1, h.no hm.2]
  · rw [Bool.or_eq_true, hr, decide_eq_true_iff] at hm
    rw [hl]
    rcases hm with hm | hm
    · rw [if_neg hm]; have := h.len; omega
    · have := h.yes hm; split <;> omega
/-- One round through a set: number i of it comes next. -/
structure ApInv (l : List Tm) (i : Nat) (li : List Tm) (more : Bool) : Prop where
  st : ApSt l li more
  len : li.length ≤ l.length + 2 * i
  cl : more = false → ∀ t ∈ l.take i, ClosedAt (· ∈ l) t
theorem ApInv.start {l : List Tm} (h : Srt l) : ApInv l 0 l false := ⟨.start h, by omega, fun _ t ht => by simp at ht⟩
theorem ApInv.next {l li li' : List Tm} {i : Nat} {more more' : Bool} {t : Tm} (h : ApInv l i li more) (ht : l[i]? = some t) (hs : ApSt l li' more') (hl : li'.length ≤ li.length + 2) (hm : more' = false → more = false) (hc : more' = false → ClosedAt (· ∈ l) t) : ApInv l (i + 1) li' more' := by
  refine ⟨hs, by have := h.len; omega, fun he u hu => ?_⟩
  rw [List.take_add_one, ht] at hu
  rcases List.mem_append.1 hu with hu | hu
  · exact h.cl (hm he) u hu
  · simp at hu; subst hu; exact hc he
theorem ApInv.other {l li : List Tm} {i : Nat} {more : Bool} {k : Int} {n : List UInt8} {ts : List Tm} (h : ApInv l i li more) (ht : l[i]? = some (.mk k n ts)) (h2 : k ≠ 2) (h8 : k ≠ 8) (h3 : k ≠ 3) : ApInv l (i + 1) li more :=
  h.next ht h.st (by omega) id fun _ => ⟨fun n a b he => by injection he with he; exact absurd he h2, fun n a b he => by injection he with he; exact absurd he h8, fun n a b he => by injection he with he; exact absurd he h3⟩
theorem ApInv.known {l li : List Tm} {i : Nat} {more : Bool} {t : Tm} (_ : ApInv l i li more) (ht : l[i]? = some t) : Der (· ∈ l) t := .known (List.mem_of_getElem? ht)
theorem ApInv.pair {l li : List Tm} {i : Nat} {more r1 r2 : Bool} {n : List UInt8} {a b : Tm} (h : ApInv l i li more) (ht : l[i]? = some (.mk 2 n [a, b])) (hr1 : r1 = decide (a ∉ li)) (hr2 : r2 = decide (b ∉ insT li a)) : ApInv l (i + 1) (insT (insT li a) b) (r2 || (r1 || more)) := by
  have hk := h.known ht
  have hm := List.mem_of_getElem? ht
  obtain ⟨s1, e1⟩ := h.st.ins (.fst hk) ⟨_, hm, subs_arg (by simp) (subs_self a)⟩ hr1
  obtain ⟨s2, e2⟩ := s1.ins (.snd hk) ⟨_, hm, subs_arg (by simp) (subs_self b)⟩ hr2
  refine h.next ht s2 (by omega) (fun he => by simp only [Bool.or_eq_false_iff] at he; exact he.2.2) fun he => ?_
  have hl := s2.no he
  have ha : a ∈ l := by rw [← hl]; exact insT_mem.2 (.inr (insT_mem.2 (.inl rfl)))
  have hb : b ∈ l := by rw [← hl]; exact insT_mem.2 (.inl rfl)
  exact ⟨fun n a' b' he => by injection he with _ _ he; simp at he; obtain ⟨rfl, rfl⟩ := he; exact ⟨ha, hb⟩, fun n a b he => by injection he with he; exact absurd he (by decide), fun n a b he => by injection he with he; exact absurd he (by decide)⟩
theorem ApInv.sign {l li : List Tm} {i : Nat} {more r : Bool} {n : List UInt8} {a b : Tm} (h : ApInv l i li more) (ht : l[i]? = some (.mk 8 n [a, b])) (hr : r = decide (b ∉ li)) : ApInv l (i + 1) (insT li b) (r || more) := by
  have hk := h.known ht
  have hm := List.mem_of_getElem? ht
  obtain ⟨s1, e1⟩ := h.st.ins (.sig hk) ⟨_, hm, subs_arg (by simp) (subs_self b)⟩ hr
  refine h.next ht s1 (by omega) (fun he => by simp only [Bool.or_eq_false_iff] at he; exact he.2) fun he => ?_
  have hb : b ∈ l := by rw [← s1.no he]; exact insT_mem.2 (.inl rfl)
  exact ⟨fun n a b he => by injection he with he; exact absurd he (by decide), fun n a' b' he => by injection he with _ _ he; simp at he; obtain ⟨rfl, rfl⟩ := he; exact hb, fun n a b he => by injection he with he; exact absurd he (by decide)⟩
theorem ApInv.seal1 {l li : List Tm} {i : Nat} {more r : Bool} {n : List UInt8} {a b : Tm} (h : ApInv l i li more) (ht : l[i]? = some (.mk 3 n [a, b])) (hmk : Mk (· ∈ li) a) (hr : r = decide (b ∉ li)) : ApInv l (i + 1) (insT li b) (r || more) := by
  have hk := h.known ht
  have hm := List.mem_of_getElem? ht
  have ha : Der (· ∈ l) a := hmk.der.cut fun t ht => h.st.der t ht
  obtain ⟨s1, e1⟩ := h.st.ins (.opn hk ha) ⟨_, hm, subs_arg (by simp) (subs_self b)⟩ hr
  refine h.next ht s1 (by omega) (fun he => by simp only [Bool.or_eq_false_iff] at he; exact he.2) fun he => ?_
  have hb : b ∈ l := by rw [← s1.no he]; exact insT_mem.2 (.inl rfl)
  exact ⟨fun n a b he => by injection he with he; exact absurd he (by decide), fun n a b he => by injection he with he; exact absurd he (by decide), fun n a' b' he => by injection he with _ _ he; simp at he; obtain ⟨rfl, rfl⟩ := he; exact .inl hb⟩
theorem ApInv.seal0 {l li : List Tm} {i : Nat} {more : Bool} {n : List UInt8} {a b : Tm} (h : ApInv l i li more) (ht : l[i]? = some (.mk 3 n [a, b])) (hmk : b ∈ li ∨ ¬ Mk (· ∈ li) a) : ApInv l (i + 1) li more := by
  refine h.next ht h.st (by omega) id fun he => ?_
  have hl := h.st.no he
  rw [hl] at hmk
  exact ⟨fun n a b he => by injection he with he; exact absurd he (by decide), fun n a b he => by injection he with he; exact absurd he (by decide), fun n a' b' he => by injection he with _ _ he; simp at he; obtain ⟨rfl, rfl⟩ := he; exact hmk⟩
theorem ApInv.closed {l li : List Tm} (h : ApInv l l.length li false) : li = l ∧ Closed (· ∈ l) := ⟨h.st.no rfl, fun t ht => h.cl rfl t (by rw [List.take_length]; exact ht)⟩

/-- What is known of what came: each term of l, and each one form of ts. -/
def Base (l ts : List Tm) (x : Tm) : Prop := x ∈ l ∨ ∃ t ∈ ts, x = nrm t
/-- What learning comes to: the error, and the set behind it. -/
inductive LearnR (l ts : List Tm) : Int → List Tm → Prop
  | ok {l' : List Tm} : (∀ t ∈ ts, chk t = 0) → Srt l' → (∀ x, Base l ts x → x ∈ l') → (∀ x ∈ l', Der (Base l ts) x) → (∀ x ∈ l', ∃ y, Base l ts y ∧ x ∈ subs y) → Closed (· ∈ l') → l'.length ≤ 4000 → (∀ x ∈ l', shp x = true) → LearnR l ts 0 l'
  | bad {i : Nat} {t : Tm} : ts[i]? = some t → (∀ u ∈ ts.take i, chk u = 0) → chk t ≠ 0 → LearnR l ts (chk t) l
  | full {m : List Tm} : (∀ t ∈ ts, chk t = 0) → m.Nodup → 4000 < m.length → (∀ x ∈ m, ∃ y, Base l ts y ∧ x ∈ subs y) → LearnR l ts 3 l
end Go.Proofs.YtlpkcbkflfbclaaGreatDoor.S

namespace Go.Proofs.YtlpkcbkflfbclaaGreatDoor.S

/-! ### Counting -/
theorem nodup_le : ∀ {m big : List Tm}, m.Nodup → (∀ x ∈ m, x ∈ big) → m.length ≤ big.length
  | [], _, _, _ => Nat.zero_le _
  | a :: m, big, h, hs => by
    have ha : a ∈ big := hs a (by simp)
    obtain ⟨h1, h2⟩ := List.nodup_cons.1 h
    have := nodup_le (m := m) (big := big.erase a) h2 fun x hx => (List.mem_erase_of_ne (fun e => h1 (by rw [← e]; exact hx))).2 (hs x (by simp [hx]))
    have hl := List.length_erase_of_mem ha
    have hp := List.length_pos_of_mem ha
    rw [List.length_cons]; omega
/-! ### What is known -/
/-- The one forms of what came. -/
def Bs (ts : List Tm) (x : Tm) : Prop := ∃ t ∈ ts, x = nrm t
theorem Bs.mono {ts us : List Tm} (h : ∀ t ∈ ts, t ∈ us) : ∀ x, Bs ts x → Bs us x := fun x ⟨t, ht, e⟩ => ⟨t, h t ht, e⟩
/-- The set l is what is known of ts. -/
structure Kn (ts l : List Tm) : Prop where
  mks : ∀ x, Mk (· ∈ l) x ↔ Der (Bs ts) x
  sub : ∀ x ∈ l, ∃ t ∈ ts, x ∈ subs (nrm t)
  cl : Closed (· ∈ l)
  sup : ∀ x, Bs ts x → x ∈ l
theorem Kn.nil : Kn [] [] := by
  have hc : Closed (· ∈ ([] : List Tm)) := fun t h => by cases h
  refine ⟨fun x => ⟨fun h => h.der.mono (fun y h => (by cases h)), fun h => hc.der (h.mono fun y h => ?_)⟩, fun x h => (by cases h), hc, fun x h => (by obtain ⟨t, h, _⟩ := h; cases h)⟩
  obtain ⟨t, h, _⟩ := h
  cases h
theorem Kn.der {ts l : List Tm} (h : Kn ts l) : ∀ x ∈ l, Der (Bs ts) x := fun x hx => (h.mks x).1 (.known hx)
theorem Kn.next {ts l us l' : List Tm} {e : Int} (h : Kn ts l) (hl : LearnR l us e l') (he : e = 0) : Kn (ts ++ us) l' := by
  cases hl with
  | bad _ _ h0 => exact absurd he h0
  | full => cases he
  | ok h1 h2 h3 h4 h5 h6 h7 h8 =>
    refine ⟨fun x => ⟨fun hx => hx.der.cut fun y hy => (h4 y hy).cut fun z hz => ?_, fun hx => h6.der (hx.cut ?_)⟩, fun x hx => ?_, h6, fun x hx => ?_⟩
    · rcases hz with hz | hz
      · exact (h.der z hz).mono (Bs.mono (by simp +contextual))
      · exact .known (Bs.mono (by simp +contextual) z hz)
    · rintro y ⟨t, ht, rfl⟩
      rcases List.mem_append.1 ht with ht | ht
      · exact (((h.mks _).2 (.known ⟨t, ht, rfl⟩)).mono fun z hz => h3 z (.inl hz)).der
      · exact .known (h3 _ (.inr ⟨t, ht, rfl⟩))
    · obtain ⟨y, hy, hx⟩ := h5 x hx
      rcases hy with hy | ⟨t, ht, rfl⟩
      · obtain ⟨t, ht, hy⟩ := h.sub y hy
        exact ⟨t, List.mem_append_left _ ht, subs_trans hx hy⟩
      · exact ⟨t, List.mem_append_right _ ht, hx⟩
    · obtain ⟨t, ht, rfl⟩ := hx
      rcases List.mem_append.1 ht with ht | ht
      · exact h3 _ (.inl (h.sup _ ⟨t, ht, rfl⟩))
      · exact h3 _ (.inr ⟨t, ht, rfl⟩)
/-- Can it be made of what came? -/
def Ans (ts : List Tm) (t : Tm) : Prop := chk t = 0 ∧ Der (Bs ts) (nrm t)
theorem Kn.ans {ts l : List Tm} (h : Kn ts l) (t : Tm) : (chk t = 0 ∧ Mk (· ∈ l) (nrm t)) ↔ Ans ts t := by unfold Ans; rw [h.mks]
/-! ### One forms -/
theorem nrm_atom {n : List UInt8} : nrm (.mk 1 n []) = .mk 1 n [] := by rw [nrm, nrm1_else (by decide) (by decide)]; rfl
theorem nrm_two {k : Int} {n : List UInt8} {a b : Tm} (h7 : k ≠ 7) (h6 : k ≠ 6) : nrm (.mk k n [a, b]) = .mk k n [nrm a, nrm b] := by rw [nrm, nrm1_else h7 h6]; rfl
theorem nrm_pub {n : List UInt8} {a : Tm} : nrm (.mk 5 n [a]) = .mk 5 n [nrm a] := by rw [nrm, nrm1_else (by decide) (by decide)]; rfl
/-! ### What stands nowhere helps nobody -/
section
variable {K : Tm → Prop} {s a : Tm} {n : List UInt8}
end
/-! ### The first example -/
end Go.Proofs.YtlpkcbkflfbclaaGreatDoor.S
