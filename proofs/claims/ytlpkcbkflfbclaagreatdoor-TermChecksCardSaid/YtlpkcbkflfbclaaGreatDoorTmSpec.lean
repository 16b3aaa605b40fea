/- Terms as they are thought of: their order, their parts, their one form. Plain Lean: no program in this text. The one form of a term: its shape, its parts. Plain Lean: no program in this text. What can be made of what is known: putting together, taking apart. Plain Lean: no program in this text. What is known, taken apart as far as can be. Plain Lean: no program in this text. What is known, in one word: what can be had of the one forms of what came. Plain Lean: no program in this text. -/
import Derived.Lib.Bytealg
import Derived.Sort.AssemblyPlain
namespace Go.Proofs.YtlpkcbkflfbclaaGreatDoor.S

/-- A term: its kind, its name, its arguments. -/
inductive Tm where
  | mk : Int → List UInt8 → List Tm → Tm
def Tm.kind : Tm → Int | .mk k _ _ => k
def Tm.args : Tm → List Tm | .mk _ _ as => as
theorem Tm.ind {p : Tm → Prop} (h : ∀ k n as, (∀ a ∈ as, p a) → p (.mk k n as)) (t : Tm) : p t :=
  Tm.rec (motive_1 := p) (motive_2 := fun as => ∀ a ∈ as, p a) (fun k n as ih => h k n as ih) (fun a ha => by cases ha) (fun a as ih ihs b hb => (List.mem_cons.1 hb).elim (fun e => e ▸ ih) (ihs b)) t
instance : Inhabited Tm := ⟨.mk 0 [] []⟩

/-! ### How great, how deep -/
mutual
def Tm.size : Tm → Nat
  | .mk _ _ as => tsize as + 1
def tsize : List Tm → Nat
  | [] => 0
  | t :: ts => t.size + tsize ts
end
mutual
def Tm.deep : Tm → Nat
  | .mk _ _ as => tdeep as
def tdeep : List Tm → Nat
  | [] => 0
  | t :: ts => max (t.deep + 1) (tdeep ts)
end
theorem Tm.size_pos (t : Tm) : 0 < t.size := by cases t; simp [Tm.size]
theorem tsize_mem : ∀ {ts : List Tm} {t : Tm}, t ∈ ts → t.size ≤ tsize ts
  | u :: ts, t, h => by
    rw [tsize]
    rcases List.mem_cons.1 h with rfl | h
    · omega
    · have := tsize_mem h; omega
theorem size_arg {k : Int} {n : List UInt8} {as : List Tm} {a : Tm} (h : a ∈ as) : a.size < (Tm.mk k n as).size := by
  have := tsize_mem h; rw [Tm.size]; omega
theorem tsize_app (a b : List Tm) : tsize (a ++ b) = tsize a + tsize b := by
  induction a with
  | nil => simp [tsize]
  | cons x a ih => rw [List.cons_append, tsize, tsize, ih]; omega
theorem tsize_len (as : List Tm) : as.length ≤ tsize as := by
  induction as with
  | nil => simp
  | cons a as ih => have := a.size_pos; rw [tsize, List.length_cons]; omega
theorem tdeep_mem : ∀ {ts : List Tm} {t : Tm}, t ∈ ts → t.deep + 1 ≤ tdeep ts
  | u :: ts, t, h => by
    rw [tdeep]
    rcases List.mem_cons.1 h with rfl | h
    · omega
    · have := tdeep_mem h; omega
theorem tdeep_le {ts : List Tm} {m : Nat} (h : ∀ t ∈ ts, t.deep + 1 ≤ m) : tdeep ts ≤ m := by
  induction ts with
  | nil => simp [tdeep]
  | cons t ts ih => rw [tdeep]; have := h t (by simp); have := ih (fun u hu => h u (by simp [hu])); omega

/-! ### Their order -/
def cmpI (a b : Int) : Int := if a < b then -1 else if b < a then 1 else 0
def orI (a b : Int) : Int := if a ≠ 0 then a else b
abbrev cmpB := Go.Lib.compareBytes
mutual
def cmpT : Tm → Tm → Int
  | .mk k n as, .mk k' n' bs => orI (cmpI k k') (orI (cmpB n n') (orI (cmpI as.length bs.length) (cmpTs as bs)))
def cmpTs : List Tm → List Tm → Int
  | [], [] => 0
  | [], _ :: _ => -1
  | _ :: _, [] => 1
  | a :: as, b :: bs => orI (cmpT a b) (cmpTs as bs)
end
theorem cmpI_lt {a b : Int} : cmpI a b < 0 ↔ a < b := by unfold cmpI; split <;> (try split) <;> omega
theorem cmpI_eq {a b : Int} : cmpI a b = 0 ↔ a = b := by unfold cmpI; split <;> (try split) <;> omega
theorem cmpI_neg (a b : Int) : cmpI b a = -cmpI a b := by unfold cmpI; split <;> split <;> (try split) <;> omega
theorem cmpI_range (a b : Int) : cmpI a b = -1 ∨ cmpI a b = 0 ∨ cmpI a b = 1 := by unfold cmpI; split <;> (try split) <;> omega
theorem orI_lt {a b : Int} : orI a b < 0 ↔ a < 0 ∨ (a = 0 ∧ b < 0) := by unfold orI; split <;> omega
theorem orI_eq {a b : Int} : orI a b = 0 ↔ a = 0 ∧ b = 0 := by unfold orI; split <;> omega
theorem orI_neg {a b a' b' : Int} (h1 : a' = -a) (h2 : b' = -b) : orI a' b' = -orI a b := by unfold orI; split <;> split <;> omega
theorem orI_range {a b : Int} (h1 : a = -1 ∨ a = 0 ∨ a = 1) (h2 : b = -1 ∨ b = 0 ∨ b = 1) : orI a b = -1 ∨ orI a b = 0 ∨ orI a b = 1 := by unfold orI; split <;> omega
theorem cmpB_eq : ∀ {a b : List UInt8}, cmpB a b = 0 ↔ a = b
  | [], [] => by simp [cmpB, Go.Lib.compareBytes]
  | [], _ :: _ => by simp [cmpB, Go.Lib.compareBytes]
  | _ :: _, [] => by simp [cmpB, Go.Lib.compareBytes]
  | x :: a, y :: b => by
    have ih := @cmpB_eq a b
    unfold cmpB at ih ⊢
    unfold Go.Lib.compareBytes
    rw [List.cons.injEq]
    by_cases h1 : x < y
    · rw [if_pos h1]
      have : x ≠ y := by rintro rfl; exact absurd h1 (UInt8.lt_irrefl x)
      simp [this]
    · by_cases h2 : y < x
      · rw [if_neg h1, if_pos h2]
        have : x ≠ y := by rintro rfl; exact absurd h2 (UInt8.lt_irrefl x)
        simp [this]
      · rw [if_neg h1, if_neg h2, ih]
        have : x = y := UInt8.le_antisymm (UInt8.not_lt.1 h2) (UInt8.not_lt.1 h1)
        simp [this]
theorem cmpB_neg : ∀ (a b : List UInt8), cmpB b a = -cmpB a b
  | [], [] => rfl
  | [], _ :: _ => rfl
  | _ :: _, [] => rfl
  | x :: a, y :: b => by
    have ih := cmpB_neg a b
    unfold cmpB at ih ⊢
    unfold Go.Lib.compareBytes
    by_cases h1 : x < y
    · rw [if_pos h1, if_neg (UInt8.lt_asymm h1), if_pos h1]; rfl
    · by_cases h2 : y < x
      · rw [if_pos h2, if_neg h1, if_pos h2]
      · rw [if_neg h2, if_neg h1, if_neg h1, if_neg h2, ih]
theorem cmpB_range : ∀ (a b : List UInt8), cmpB a b = -1 ∨ cmpB a b = 0 ∨ cmpB a b = 1
  | [], [] => by simp [cmpB, Go.Lib.compareBytes]
  | [], _ :: _ => by simp [cmpB, Go.Lib.compareBytes]
  | _ :: _, [] => by simp [cmpB, Go.Lib.compareBytes]
  | x :: a, y :: b => by
    have ih := cmpB_range a b
    unfold cmpB at ih ⊢
    unfold Go.Lib.compareBytes
    split
    · simp
    · split
      · simp
      · exact ih
theorem cmpB_trans : ∀ {a b c : List UInt8}, cmpB a b < 0 → cmpB b c < 0 → cmpB a c < 0
  | [], [], _, h, _ => by simp [cmpB, Go.Lib.compareBytes] at h
  | [], _ :: _, [], _, h => by simp [cmpB, Go.Lib.compareBytes] at h
  | [], _ :: _, _ :: _, _, _ => by simp [cmpB, Go.Lib.compareBytes]
  | _ :: _, [], _, h, _ => by simp [cmpB, Go.Lib.compareBytes] at h
  | _ :: _, _ :: _, [], _, h => by simp [cmpB, Go.Lib.compareBytes] at h
  | x :: a, y :: b, z :: c, h1, h2 => by
    have ih := @cmpB_trans a b c
    unfold cmpB at ih h1 h2 ⊢
    unfold Go.Lib.compareBytes at h1 h2 ⊢
    have hx : ∀ {p q : UInt8}, ¬ p < q → ¬ q < p → p = q := fun u v => UInt8.le_antisymm (UInt8.not_lt.1 v) (UInt8.not_lt.1 u)
    by_cases a1 : x < y
    · by_cases b1 : y < z
      · rw [if_pos (UInt8.lt_trans a1 b1)]; decide
      · by_cases b2 : z < y
        · rw [if_neg b1, if_pos b2] at h2; exact absurd h2 (by decide)
        · obtain rfl := hx b1 b2; rw [if_pos a1]; decide
    · by_cases a2 : y < x
      · rw [if_neg a1, if_pos a2] at h1; exact absurd h1 (by decide)
      · obtain rfl := hx a1 a2
        rw [if_neg a1, if_neg a2] at h1
        by_cases b1 : x < z
        · rw [if_pos b1]; decide
        · by_cases b2 : z < x
          · rw [if_neg b1, if_pos b2] at h2; exact absurd h2 (by decide)
          · rw [if_neg b1, if_neg b2] at h2 ⊢; exact ih h1 h2
theorem cmpTs_facts (as : List Tm) (h : ∀ a ∈ as, ∀ b, (cmpT a b = 0 ↔ a = b) ∧ cmpT b a = -cmpT a b ∧ (cmpT a b = -1 ∨ cmpT a b = 0 ∨ cmpT a b = 1)) :
    ∀ bs, (cmpTs as bs = 0 ↔ as = bs) ∧ cmpTs bs as = -cmpTs as bs ∧ (cmpTs as bs = -1 ∨ cmpTs as bs = 0 ∨ cmpTs as bs = 1) := by
  induction as with
  | nil => intro bs; cases bs <;> simp [cmpTs]
  | cons a as ih =>
    intro bs
    cases bs with
    | nil => simp [cmpTs]
    | cons b bs =>
      obtain ⟨h1, h2, h3⟩ := h a (by simp) b
      obtain ⟨i1, i2, i3⟩ := ih (fun x hx => h x (by simp [hx])) bs
      rw [cmpTs, cmpTs]
      refine ⟨?_, orI_neg h2 i2, orI_range h3 i3⟩
      rw [orI_eq, h1, i1, List.cons.injEq]
theorem cmpT_facts (a : Tm) : ∀ b, (cmpT a b = 0 ↔ a = b) ∧ cmpT b a = -cmpT a b ∧ (cmpT a b = -1 ∨ cmpT a b = 0 ∨ cmpT a b = 1) := by
  induction a using Tm.ind with
  | h k n as ih =>
    rintro ⟨k', n', bs⟩
    obtain ⟨i1, i2, i3⟩ := cmpTs_facts as ih bs
    rw [cmpT, cmpT]
    refine ⟨?_, orI_neg (cmpI_neg ..) (orI_neg (cmpB_neg ..) (orI_neg (cmpI_neg ..) i2)), orI_range (cmpI_range ..) (orI_range (cmpB_range ..) (orI_range (cmpI_range ..) i3))⟩
    rw [orI_eq, orI_eq, orI_eq, cmpI_eq, cmpB_eq, cmpI_eq, i1, Tm.mk.injEq]
    constructor
    · rintro ⟨h1, h2, _, h4⟩; exact ⟨h1, h2, h4⟩
    · rintro ⟨h1, h2, h4⟩; exact ⟨h1, h2, by rw [h4], h4⟩
theorem cmpT_eq {a b : Tm} : cmpT a b = 0 ↔ a = b := (cmpT_facts a b).1
theorem cmpT_neg (a b : Tm) : cmpT b a = -cmpT a b := (cmpT_facts a b).2.1
theorem cmpT_self (a : Tm) : cmpT a a = 0 := cmpT_eq.2 rfl
theorem cmpTs_trans (as : List Tm) (h : ∀ a ∈ as, ∀ b c, cmpT a b < 0 → cmpT b c < 0 → cmpT a c < 0) : ∀ bs cs, cmpTs as bs < 0 → cmpTs bs cs < 0 → cmpTs as cs < 0 := by
  induction as with
  | nil =>
    intro bs cs h1 h2
    cases bs with
    | nil => simp [cmpTs] at h1
    | cons b bs => cases cs with
      | nil => simp [cmpTs] at h2
      | cons c cs => simp [cmpTs]
  | cons a as ih =>
    intro bs cs h1 h2
    cases bs with
    | nil => simp [cmpTs] at h1
    | cons b bs => cases cs with
      | nil => simp [cmpTs] at h2
      | cons c cs =>
        rw [cmpTs, orI_lt] at h1 h2 ⊢
        rw [cmpT_eq] at h1 h2
        rw [cmpT_eq]
        have hs := ih (fun x hx => h x (by simp [hx])) bs cs
        rcases h1 with h1 | ⟨rfl, h1⟩
        · rcases h2 with h2 | ⟨rfl, h2⟩
          · exact .inl (h a (by simp) b c h1 h2)
          · exact .inl h1
        · rcases h2 with h2 | ⟨rfl, h2⟩
          · exact .inl h2
          · exact .inr ⟨rfl, hs h1 h2⟩
theorem cmpT_lt {k k' : Int} {n n' : List UInt8} {as bs : List Tm} : cmpT (.mk k n as) (.mk k' n' bs) < 0 ↔ k < k' ∨ (k = k' ∧ (cmpB n n' < 0 ∨ (n = n' ∧ (as.length < bs.length ∨ (as.length = bs.length ∧ cmpTs as bs < 0))))) := by
  rw [cmpT, orI_lt, orI_lt, orI_lt, cmpI_lt, cmpI_eq, cmpB_eq, cmpI_lt, cmpI_eq]
  simp only [Int.ofNat_lt, Int.ofNat_inj]
theorem cmpT_trans {a b c : Tm} : cmpT a b < 0 → cmpT b c < 0 → cmpT a c < 0 := by
  revert b c
  induction a using Tm.ind with
  | h k n as ih =>
    rintro ⟨k', n', bs⟩ ⟨k'', n'', cs⟩ h1 h2
    rw [cmpT_lt] at h1 h2 ⊢
    have hs := cmpTs_trans as (fun a ha b c => ih a ha) bs cs
    rcases h1 with h1 | ⟨rfl, h1⟩
    · rcases h2 with h2 | ⟨rfl, h2⟩ <;> (left; omega)
    · rcases h2 with h2 | ⟨rfl, h2⟩
      · left; omega
      · refine .inr ⟨rfl, ?_⟩
        rcases h1 with h1 | ⟨rfl, h1⟩
        · rcases h2 with h2 | ⟨rfl, h2⟩
          · exact .inl (cmpB_trans h1 h2)
          · exact .inl h1
        · rcases h2 with h2 | ⟨rfl, h2⟩
          · exact .inl h2
          · refine .inr ⟨rfl, ?_⟩
            rcases h1 with h1 | ⟨h1, h1'⟩
            · rcases h2 with h2 | ⟨h2, _⟩ <;> (left; omega)
            · rcases h2 with h2 | ⟨h2, h2'⟩
              · left; omega
              · exact .inr ⟨by omega, hs h1' h2'⟩
instance : DecidableEq Tm := fun _ _ => decidable_of_iff _ cmpT_eq
theorem cmpT_ne {a b : Tm} (h : a ≠ b) : cmpT a b < 0 ∨ cmpT b a < 0 := by
  have h0 : cmpT a b ≠ 0 := fun he => h (cmpT_eq.1 he)
  have := cmpT_neg a b; omega
theorem cmpT_asymm {a b : Tm} (h : cmpT a b < 0) : ¬ cmpT b a < 0 := by have := cmpT_neg a b; omega

/-! ### Lists in their order -/
def Srt (l : List Tm) : Prop := l.Pairwise fun a b => cmpT a b < 0
theorem Srt.nodup {l : List Tm} (h : Srt l) : l.Nodup := h.imp fun {a b} hab he => by subst he; rw [cmpT_self] at hab; omega
theorem Srt.eq {l m : List Tm} (h1 : Srt l) (h2 : Srt m) (h : ∀ x, x ∈ l ↔ x ∈ m) : l = m := by
  have hp : l.Perm m := (List.perm_ext_iff_of_nodup h1.nodup h2.nodup).2 h
  exact hp.eq_of_pairwise (fun a b _ _ hab hba => absurd hba (cmpT_asymm hab)) h1 h2
/-- Where a term stands in such a list, or would stand. -/
theorem Srt.ins {l : List Tm} {t : Tm} {i : Nat} (h : Srt l) (h1 : ∀ x ∈ l.take i, cmpT x t < 0) (h2 : ∀ x ∈ l.drop i, cmpT t x < 0) : Srt (l.take i ++ t :: l.drop i) := by
  unfold Srt at h ⊢
  rw [← List.take_append_drop i l, List.pairwise_append] at h
  rw [List.pairwise_append, List.pairwise_cons]
  refine ⟨h.1, ⟨h2, h.2.1⟩, fun a ha b hb => ?_⟩
  rcases List.mem_cons.1 hb with rfl | hb
  · exact h1 a ha
  · exact h.2.2 a ha b hb

/-! ### Their parts -/
mutual
def subs : Tm → List Tm
  | .mk k n as => .mk k n as :: subsL as
def subsL : List Tm → List Tm
  | [] => []
  | t :: ts => subs t ++ subsL ts
end
theorem subs_self (t : Tm) : t ∈ subs t := by cases t; simp [subs]
theorem mem_subsL {x : Tm} : ∀ {as : List Tm}, x ∈ subsL as ↔ ∃ a ∈ as, x ∈ subs a
  | [] => by simp [subsL]
  | a :: as => by rw [subsL, List.mem_append, mem_subsL]; simp
theorem mem_subs {x : Tm} {k : Int} {n : List UInt8} {as : List Tm} : x ∈ subs (.mk k n as) ↔ x = .mk k n as ∨ ∃ a ∈ as, x ∈ subs a := by rw [subs, List.mem_cons, mem_subsL]
theorem subs_arg {k : Int} {n : List UInt8} {as : List Tm} {a x : Tm} (ha : a ∈ as) (h : x ∈ subs a) : x ∈ subs (.mk k n as) := mem_subs.2 (.inr ⟨a, ha, h⟩)
theorem subs_trans {x y z : Tm} (h1 : x ∈ subs y) (h2 : y ∈ subs z) : x ∈ subs z := by
  induction z using Tm.ind with
  | h k n as ih =>
    rcases mem_subs.1 h2 with rfl | ⟨a, ha, h2⟩
    · exact h1
    · exact subs_arg ha (ih a ha h2)
theorem subs_size {x y : Tm} (h : x ∈ subs y) : x.size ≤ y.size := by
  induction y using Tm.ind with
  | h k n as ih =>
    rcases mem_subs.1 h with rfl | ⟨a, ha, h⟩
    · exact Nat.le_refl _
    · exact Nat.le_of_lt (Nat.lt_of_le_of_lt (ih a ha h) (size_arg ha))
theorem subs_args {x : Tm} {t a : Tm} (h : t ∈ subs x) (ha : a ∈ t.args) : a ∈ subs x := by
  cases t; exact subs_trans (subs_arg ha (subs_self a)) h

mutual
/-- The parts as they are met. -/
def prt : Tm → List Tm → List Tm
  | .mk k n as, out => if .mk k n as ∈ out then out else prtL as (out ++ [.mk k n as])
def prtL : List Tm → List Tm → List Tm
  | [], out => out
  | t :: ts, out => prtL ts (prt t out)
end
def PInv (m : Nat) (out : List Tm) : Prop := ∀ x ∈ out, (∀ y ∈ subs x, y ∈ out) ∨ m ≤ x.size
theorem prt_spec (t : Tm) : ∀ (out : List Tm) (m : Nat), t.size < m → PInv m out → out.Nodup → PInv m (prt t out) ∧ (prt t out).Nodup ∧ (∀ x, x ∈ prt t out ↔ x ∈ out ∨ x ∈ subs t) := by
  induction t using Tm.ind with
  | h k n as ih =>
    intro out m hm hi hn
    have key : ∀ (bs : List Tm), (∀ b ∈ bs, b ∈ as) → ∀ (o : List Tm) (q : Nat), (∀ b ∈ bs, b.size < q) → PInv q o → o.Nodup → PInv q (prtL bs o) ∧ (prtL bs o).Nodup ∧ (∀ x, x ∈ prtL bs o ↔ x ∈ o ∨ ∃ b ∈ bs, x ∈ subs b) := by
      intro bs
      induction bs with
      | nil => intro _ o q _ h1 h2; exact ⟨h1, h2, fun x => by simp [prtL]⟩
      | cons b bs ihb =>
        intro hb o q hq h1 h2
        obtain ⟨a1, a2, a3⟩ := ih b (hb b (by simp)) o q (hq b (by simp)) h1 h2
        obtain ⟨b1, b2, b3⟩ := ihb (fun c hc => hb c (by simp [hc])) (prt b o) q (fun c hc => hq c (by simp [hc])) a1 a2
        refine ⟨by rw [prtL]; exact b1, by rw [prtL]; exact b2, fun x => ?_⟩
        rw [prtL, b3, a3]
        constructor
        · rintro ((h | h) | ⟨c, hc, h⟩)
          · exact .inl h
          · exact .inr ⟨b, by simp, h⟩
          · exact .inr ⟨c, by simp [hc], h⟩
        · rintro (h | ⟨c, hc, h⟩)
          · exact .inl (.inl h)
          · rcases List.mem_cons.1 hc with rfl | hc
            · exact .inl (.inr h)
            · exact .inr ⟨c, hc, h⟩
    rw [prt]
    by_cases hin : Tm.mk k n as ∈ out
    · rw [if_pos hin]
      refine ⟨hi, hn, fun x => ⟨.inl, fun h => ?_⟩⟩
      rcases h with h | h
      · exact h
      · rcases hi _ hin with h' | h'
        · exact h' x h
        · omega
    · rw [if_neg hin]
      obtain ⟨a1, a2, a3⟩ := key as (fun _ h => h) (out ++ [.mk k n as]) (Tm.mk k n as).size (fun b hb => size_arg hb) (by
        intro x hx
        rcases List.mem_append.1 hx with hx | hx
        · rcases hi x hx with h | h
          · exact .inl fun y hy => List.mem_append_left _ (h y hy)
          · right; omega
        · rw [List.mem_singleton] at hx; subst hx; exact .inr (Nat.le_refl _)) (by
        rw [List.nodup_append]
        exact ⟨hn, by simp, fun x hx y hy => by rw [List.mem_singleton] at hy; subst hy; rintro rfl; exact hin hx⟩)
      have hmem : ∀ x, x ∈ prtL as (out ++ [.mk k n as]) ↔ x ∈ out ∨ x ∈ subs (.mk k n as) := fun x => by
        rw [a3, mem_subs, List.mem_append, List.mem_singleton, or_assoc]
      refine ⟨fun x hx => ?_, a2, hmem⟩
      rcases (hmem x).1 hx with h | h
      · rcases hi x h with h' | h'
        · exact .inl fun y hy => (hmem y).2 (.inl (h' y hy))
        · exact .inr h'
      · exact .inl fun y hy => (hmem y).2 (.inr (subs_trans hy h))
theorem prt_mem (t x : Tm) : x ∈ prt t [] ↔ x ∈ subs t := by
  have := (prt_spec t [] (t.size + 1) (by omega) (fun x hx => by cases hx) (by simp)).2.2 x
  simpa using this
theorem prt_nodup (t : Tm) : (prt t []).Nodup := (prt_spec t [] (t.size + 1) (by omega) (fun x hx => by cases hx) (by simp)).2.1

/-! ### Which are terms -/
def lowS : List UInt8 := [97, 98, 99, 100, 101, 102, 103, 104, 105, 106, 107, 108, 109, 110, 111, 112, 113, 114, 115, 116, 117, 118, 119, 120, 121, 122, 48, 49, 50, 51, 52, 53, 54, 55, 56, 57]
def low (x : UInt8) : Bool := lowS.contains x
def named (s : List UInt8) : Bool := !s.isEmpty && decide (s.length ≤ 20) && s.all low
def least (k : Int) : Nat := if k = 1 then 0 else if k = 4 ∨ k = 5 then 1 else if k = 2 ∨ k = 3 ∨ k = 6 ∨ k = 7 ∨ k = 8 then 2 else 1
def most (k : Int) : Nat := if k = 1 then 0 else if k = 4 then 4 else if k = 5 then 1 else if k = 2 ∨ k = 3 ∨ k = 6 ∨ k = 7 ∨ k = 8 then 2 else 0
/-- Is a term's head right? -/
def headOk (k : Int) (n : List UInt8) (len : Nat) : Bool :=
  !(decide (len < least k) || decide (most k < len) || ((decide (k = 1) || decide (k = 4)) != named n) || (decide (k ≠ 1) && decide (k ≠ 4) && !n.isEmpty))
mutual
def shp : Tm → Bool
  | .mk k n as => headOk k n as.length && shpL as
def shpL : List Tm → Bool
  | [] => true
  | t :: ts => shp t && shpL ts
end
theorem shpL_iff {ts : List Tm} : shpL ts = true ↔ ∀ t ∈ ts, shp t = true := by
  induction ts with
  | nil => simp [shpL]
  | cons t ts ih => rw [shpL, Bool.and_eq_true, ih]; simp
theorem shp_mk {k : Int} {n : List UInt8} {as : List Tm} : shp (.mk k n as) = true ↔ headOk k n as.length = true ∧ ∀ a ∈ as, shp a = true := by rw [shp, Bool.and_eq_true, shpL_iff]
/-- The error of a term: 0, too great, none. -/
def chk (t : Tm) : Int := if 1000 < t.size ∨ 24 < t.deep then 2 else if shp t then 0 else 190
theorem chk_iff {t : Tm} : chk t = 0 ↔ t.size ≤ 1000 ∧ t.deep ≤ 24 ∧ shp t = true := by
  unfold chk
  split
  · simp; omega
  · split
    · simp [*]; omega
    · simp [*]
theorem headOk_two {k : Int} {n : List UInt8} {len : Nat} (h : headOk k n len = true) (hk : k = 2 ∨ k = 3 ∨ k = 6 ∨ k = 7 ∨ k = 8) : len = 2 ∧ n = [] := by
  unfold headOk at h
  have h4 : k ≠ 4 := by omega
  have h1 : k ≠ 1 := by omega
  have h5 : k ≠ 5 := by omega
  have hl : least k = 2 := by unfold least; rw [if_neg h1, if_neg (by omega), if_pos hk]
  have hm : most k = 2 := by unfold most; rw [if_neg h1, if_neg h4, if_neg h5, if_pos hk]
  rw [hl, hm] at h
  simp [h1, h4] at h
  exact ⟨by omega, h.2⟩
theorem headOk_five {n : List UInt8} {len : Nat} (h : headOk 5 n len = true) : len = 1 ∧ n = [] := by
  unfold headOk at h
  simp [least, most] at h
  exact ⟨by omega, h.2⟩
theorem headOk_one {n : List UInt8} {len : Nat} (h : headOk 1 n len = true) : len = 0 ∧ named n = true := by
  unfold headOk at h
  simp [least, most] at h
  exact ⟨h.1, h.2⟩
theorem headOk_four {n : List UInt8} {len : Nat} (h : headOk 4 n len = true) : 1 ≤ len ∧ len ≤ 4 ∧ named n = true := by
  unfold headOk at h
  simp [least, most] at h
  exact ⟨by omega, h.1.2, h.2⟩
theorem headOk_kinds {k : Int} {n : List UInt8} {len : Nat} (h : headOk k n len = true) : k = 1 ∨ k = 2 ∨ k = 3 ∨ k = 4 ∨ k = 5 ∨ k = 6 ∨ k = 7 ∨ k = 8 := by
  by_cases hk : k = 1 ∨ k = 2 ∨ k = 3 ∨ k = 4 ∨ k = 5 ∨ k = 6 ∨ k = 7 ∨ k = 8
  · exact hk
  · exfalso
    unfold headOk at h
    have hl : least k = 1 := by unfold least; rw [if_neg (by omega), if_neg (by omega), if_neg (by omega)]
    have hm : most k = 0 := by unfold most; rw [if_neg (by omega), if_neg (by omega), if_neg (by omega), if_neg (by omega)]
    rw [hl, hm] at h
    simp at h

/-! ### Their one form -/
/-- Two in their order. -/
def two : List Tm → List Tm
  | [a, b] => if cmpT b a < 0 then [b, a] else [a, b]
  | l => l
def nrm1 (k : Int) (n : List UInt8) (bs : List Tm) : Tm :=
  match bs with
  | [a, .mk 5 m [c]] => if k = 7 then .mk 6 [] (two [a, c]) else if k = 6 then .mk 6 n (two [a, .mk 5 m [c]]) else .mk k n [a, .mk 5 m [c]]
  | l => if k = 6 then .mk 6 n (two l) else .mk k n l
mutual
def nrm : Tm → Tm
  | .mk k n as => nrm1 k n (nrmL as)
def nrmL : List Tm → List Tm
  | [] => []
  | t :: ts => nrm t :: nrmL ts
end
theorem nrmL_map (ts : List Tm) : nrmL ts = ts.map nrm := by
  induction ts with
  | nil => rfl
  | cons t ts ih => rw [nrmL, ih, List.map_cons]
end Go.Proofs.YtlpkcbkflfbclaaGreatDoor.S

namespace Go.Proofs.YtlpkcbkflfbclaaGreatDoor.S

theorem headOk_le4 {k : Int} {n : List UInt8} {len : Nat} (h : headOk k n len = true) : len ≤ 4 := by
  rcases headOk_kinds h with rfl | rfl | rfl | rfl | rfl | rfl | rfl | rfl
  · have := (headOk_one h).1; omega
  · have := (headOk_two h (by decide)).1; omega
  · have := (headOk_two h (by decide)).1; omega
  · have := (headOk_four h).2.1; omega
  · have := (headOk_five h).1; omega
  · have := (headOk_two h (by decide)).1; omega
  · have := (headOk_two h (by decide)).1; omega
  · have := (headOk_two h (by decide)).1; omega
theorem nrm1_else {k : Int} {n : List UInt8} {l : List Tm} (h7 : k ≠ 7) (h6 : k ≠ 6) : nrm1 k n l = .mk k n l := by
  unfold nrm1; split <;> simp [h7, h6]
theorem nrm1_six {n : List UInt8} {l : List Tm} : nrm1 6 n l = .mk 6 n (two l) := by
  unfold nrm1; split <;> simp
theorem nrm1_pub {n m : List UInt8} {a c : Tm} : nrm1 7 n [a, .mk 5 m [c]] = .mk 6 [] (two [a, c]) := by simp [nrm1]
theorem nrm1_seven {n : List UInt8} {a b : Tm} (h : b.kind ≠ 5) : nrm1 7 n [a, b] = .mk 7 n [a, b] := by
  unfold nrm1
  split
  · rename_i heq
    obtain ⟨rfl, rfl⟩ : _ ∧ b = _ := by simpa using heq
    exact absurd rfl h
  · simp
theorem two_mem {l : List Tm} {x : Tm} : x ∈ two l ↔ x ∈ l := by
  unfold two
  split
  · split <;> simp [or_comm]
  · rfl
theorem two_len (l : List Tm) : (two l).length = l.length := by
  unfold two
  split
  · split <;> rfl
  · rfl
theorem nrmL_len (ts : List Tm) : (nrmL ts).length = ts.length := by rw [nrmL_map, List.length_map]
theorem shp_nrm (x : Tm) (h : shp x = true) : shp (nrm x) = true := by
  induction x using Tm.ind with
  | h k n ts ih =>
    obtain ⟨h1, h2⟩ := shp_mk.1 h
    have hl : ∀ a ∈ nrmL ts, shp a = true := by
      intro a ha
      rw [nrmL_map] at ha
      obtain ⟨b, hb, rfl⟩ := List.mem_map.1 ha
      exact ih b hb (h2 b hb)
    rw [nrm]
    by_cases h7 : k = 7
    · subst h7
      obtain ⟨hlen, rfl⟩ := headOk_two h1 (by decide)
      match ts, hlen, hl with
      | [p, q], _, hl =>
        have hp := hl (nrm p) (by simp [nrmL])
        have hq := hl (nrm q) (by simp [nrmL])
        have e : nrmL [p, q] = [nrm p, nrm q] := rfl
        rw [e]
        generalize nrm p = p' at *
        generalize hq' : nrm q = q' at *
        obtain ⟨kq, nq, aq⟩ := q'
        by_cases h5 : kq = 5
        · subst h5
          obtain ⟨g1, g2⟩ := shp_mk.1 hq
          obtain ⟨gl, rfl⟩ := headOk_five g1
          obtain ⟨c, rfl⟩ := List.length_eq_one_iff.1 gl
          rw [nrm1_pub, shp_mk]
          refine ⟨by rw [two_len]; exact (show headOk 6 [] 2 = true by decide), fun a ha => ?_⟩
          rw [two_mem] at ha
          rcases List.mem_cons.1 ha with rfl | ha
          · exact hp
          · rw [List.mem_singleton] at ha; subst ha; exact g2 _ (by simp)
        · rw [nrm1_seven (b := .mk kq nq aq) h5, shp_mk]
          refine ⟨(show headOk 7 [] 2 = true by decide), fun a ha => ?_⟩
          rcases List.mem_cons.1 ha with rfl | ha
          · exact hp
          · rw [List.mem_singleton] at ha; subst ha; exact hq
    · by_cases h6 : k = 6
      · subst h6
        rw [nrm1_six, shp_mk]
        exact ⟨by rw [two_len, nrmL_len]; exact h1, fun a ha => hl a (two_mem.1 ha)⟩
      · rw [nrm1_else h7 h6, shp_mk]
        exact ⟨by rw [nrmL_len]; exact h1, hl⟩
end Go.Proofs.YtlpkcbkflfbclaaGreatDoor.S

namespace Go.Proofs.YtlpkcbkflfbclaaGreatDoor.S

section
variable {K K' : Tm → Prop}
end

/-! ### Sets as lists -/
end Go.Proofs.YtlpkcbkflfbclaaGreatDoor.S

namespace Go.Proofs.YtlpkcbkflfbclaaGreatDoor.S

end Go.Proofs.YtlpkcbkflfbclaaGreatDoor.S

namespace Go.Proofs.YtlpkcbkflfbclaaGreatDoor.S

/-! ### Counting -/
theorem nodup_le : ∀ {m big : List Tm}, m.Nodup → (∀ x ∈ m, x ∈ big) → m.length ≤ big.length
  | [], _, _, _ => Nat.zero_le _
  | a :: m, big, h, hs => by
    have ha : a ∈ big := hs a (by simp)
    obtain ⟨h1, h2⟩ := List.nodup_cons.1 h
    have := nodup_le (m := m) (big := big.erase a) h2 fun x hx => (List.mem_erase_of_ne (fun e => h1 (by rw [← e]; exact hx))).2 (hs x (by simp [hx]))
    have hl := List.length_erase_of_mem ha
    have hp := List.length_pos_of_mem ha
    rw [List.length_cons]; omega
/-- How many parts a term has. -/
def npart (t : Tm) : Nat := (prt t []).length
theorem npart_of {t : Tm} {us : List Tm} (h1 : us.Nodup) (h2 : ∀ y, y ∈ us ↔ y ∈ subs t) : us.length = npart t := by
  have a := nodup_le h1 (fun x hx => (prt_mem t x).2 ((h2 x).1 hx))
  have b := nodup_le (prt_nodup t) (fun x hx => (h2 x).2 ((prt_mem t x).1 hx))
  unfold npart; omega
theorem subs_len (t : Tm) : (subs t).length = t.size := by
  induction t using Tm.ind with
  | h k n as ih =>
    rw [subs, Tm.size, List.length_cons]
    congr 1
    induction as with
    | nil => rfl
    | cons a as iha => rw [subsL, tsize, List.length_append, ih a (by simp), iha fun b hb => ih b (by simp [hb])]
theorem npart_le (t : Tm) : npart t ≤ t.size := by
  rw [← subs_len]; exact nodup_le (prt_nodup t) fun x hx => (prt_mem t x).1 hx
/-! ### What is known -/
/-! ### One forms -/
/-! ### What stands nowhere helps nobody -/
section
variable {K : Tm → Prop} {s a : Tm} {n : List UInt8}
end
/-! ### The first example -/
end Go.Proofs.YtlpkcbkflfbclaaGreatDoor.S
