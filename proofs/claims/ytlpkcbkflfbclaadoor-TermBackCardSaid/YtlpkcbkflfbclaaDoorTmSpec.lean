/- Terms as they are thought of: their order, their parts, their one form. Plain Lean: no program in this text. The one form of a term: its shape, its parts. Plain Lean: no program in this text. What can be made of what is known: putting together, taking apart. Plain Lean: no program in this text. What is known, taken apart as far as can be. Plain Lean: no program in this text. What is known, in one word: what can be had of the one forms of what came. Plain Lean: no program in this text. -/
import Derived.Lib.Bytealg
import Derived.Sort.AssemblyPlain
namespace Go.Proofs.YtlpkcbkflfbclaaDoor.S

/-- A term: its kind, its name, its arguments. -/
inductive Tm where
  | mk : Int → List UInt8 → List Tm → Tm
def Tm.kind : Tm → Int | .mk k _ _ => k
theorem Tm.ind {p : Tm → Prop} (h : ∀ k n as, (∀ a ∈ as, p a) → p (.mk k n as)) (t : Tm) : p t :=
  Tm.rec (motive_1 := p) (motive_2 := fun as => ∀ a ∈ as, p a) (fun k n as ih => h k n as ih) (fun a ha => by cases ha) (fun a as ih ihs b hb => (List.mem_cons.1 hb).elim (fun e => e ▸ ih) (ihs b)) t
instance : Inhabited Tm := ⟨.mk 0 [] []⟩

/-! ### How great, how deep -/
mutual
def Tm.size : Tm → Nat
  | .mk _ _ as => tsize as + 1
def tsize : List Tm → Nat
  | [] => 0
  | t :: ts => t.size + tsize ts
end
mutual
def Tm.deep : Tm → Nat
  | .mk _ _ as => tdeep as
def tdeep : List Tm → Nat
  | [] => 0
  | t :: ts => max (t.deep + 1) (tdeep ts)
end
theorem Tm.size_pos (t : Tm) : 0 < t.size := by cases t; simp [Tm.size]
theorem tsize_mem : ∀ {ts : List Tm} {t : Tm}, t ∈ ts → t.size ≤ tsize ts
  | u :: ts, t, h => by
    rw [tsize]
    rcases List.mem_cons.1 h with rfl | h
    · omega
    · have := tsize_mem h; omega
theorem tsize_app (a b : List Tm) : tsize (a ++ b) = tsize a + tsize b := by
  induction a with
  | nil => simp [tsize]
  | cons x a ih => rw [List.cons_append, tsize, tsize, ih]; omega
theorem tsize_len (as : List Tm) : as.length ≤ tsize as := by
  induction as with
  | nil => simp
  | cons a as ih => have := a.size_pos; rw [tsize, List.length_cons]; omega
theorem tdeep_mem : ∀ {ts : List Tm} {t : Tm}, t ∈ ts → t.deep + 1 ≤ tdeep ts
  | u :: ts, t, h => by
    rw [tdeep]
    rcases List.mem_cons.1 h with rfl | h
    · omega
    · have := tdeep_mem h; omega
/-! ### Their order -/
def cmpI (a b : Int) : Int := if a < b then -1 else if b < a then 1 else 0
def orI (a b : Int) : Int := if a ≠ 0 then a else b
abbrev cmpB := Go.Lib.compareBytes
mutual
def cmpT : Tm → Tm → Int
  | .mk k n as, .mk k' n' bs => orI (cmpI k k') (orI (cmpB n n') (orI (cmpI as.length bs.length) (cmpTs as bs)))
def cmpTs : List Tm → List Tm → Int
  | [], [] => 0
  | [], _ :: _ => -1
  | _ :: _, [] => 1
  | a :: as, b :: bs => orI (cmpT a b) (cmpTs as bs)
end
theorem cmpI_eq {a b : Int} : cmpI a b = 0 ↔ a = b := by unfold cmpI; split <;> (try split) <;> omega
theorem cmpI_neg (a b : Int) : cmpI b a = -cmpI a b := by unfold cmpI; split <;> split <;> (try split) <;> omega
theorem cmpI_range (a b : Int) : cmpI a b = -1 ∨ cmpI a b = 0 ∨ cmpI a b = 1 := by unfold cmpI; split <;> (try split) <;> omega
theorem orI_eq {a b : Int} : orI a b = 0 ↔ a = 0 ∧ b = 0 := by unfold orI; split <;> omega
theorem orI_neg {a b a' b' : Int} (h1 : a' = -a) (h2 : b' = -b) : orI a' b' = -orI a b := by unfold orI; split <;> split <;> omega
theorem orI_range {a b : Int} (h1 : a = -1 ∨ a = 0 ∨ a = 1) (h2 : b = -1 ∨ b = 0 ∨ b = 1) : orI a b = -1 ∨ orI a b = 0 ∨ orI a b = 1 := by unfold orI; split <;> omega
theorem cmpB_eq : ∀ {a b : List UInt8}, cmpB a b = 0 ↔ a = b
  | [], [] => by simp [cmpB, Go.Lib.compareBytes]
  | [], _ :: _ => by simp [cmpB, Go.Lib.compareBytes]
  | _ :: _, [] => by simp [cmpB, Go.Lib.compareBytes]
  | x :: a, y :: b => by
    have ih := @cmpB_eq a b
    unfold cmpB at ih ⊢
    unfold Go.Lib.compareBytes
    rw [List.cons.injEq]
    by_cases h1 : x < y
    · rw [if_pos h1]
      have : x ≠ y := by rintro rfl; exact absurd h1 (UInt8.lt_irrefl x)
      simp [this]
    · by_cases h2 : y < x
      · rw [if_neg h1, if_pos h2]
        have : x ≠ y := by rintro rfl; exact absurd h2 (UInt8.lt_irrefl x)
        simp [this]
      · rw [if_neg h1, if_neg h2, ih]
        have : x = y := UInt8.le_antisymm (UInt8.not_lt.1 h2) (UInt8.not_lt.1 h1)
        simp [this]
theorem cmpB_neg : ∀ (a b : List UInt8), cmpB b a = -cmpB a b
  | [], [] => rfl
  | [], _ :: _ => rfl
  | _ :: _, [] => rfl
  | x :: a, y :: b => by
    have ih := cmpB_neg a b
    unfold cmpB at ih ⊢
    unfold Go.Lib.compareBytes
    by_cases h1 : x < y
    · rw [if_pos h1, if_neg (UInt8.lt_asymm h1), if_pos h1]; rfl
    · by_cases h2 : y < x
      · rw [if_pos h2, if_neg h1, if_pos h2]
      · rw [if_neg h2, if_neg h1, if_neg h1, if_neg h2, ih]
theorem cmpB_range : ∀ (a b : List UInt8), cmpB a b = -1 ∨ cmpB a b = 0 ∨ cmpB a b = 1
  | [], [] => by simp [cmpB, Go.Lib.compareBytes]
  | [], _ :: _ => by simp [cmpB, Go.Lib.compareBytes]
  | _ :: _, [] => by simp [cmpB, Go.Lib.compareBytes]
  | x :: a, y :: b => by
    have ih := cmpB_range a b
    unfold cmpB at ih ⊢
    unfold Go.Lib.compareBytes
    split
    · simp
    · split
      · simp
      · exact ih
theorem cmpTs_facts (as : List Tm) (h : ∀ a ∈ as, ∀ b, (cmpT a b = 0 ↔ a = b) ∧ cmpT b a = -cmpT a b ∧ (cmpT a b = -1 ∨ cmpT a b = 0 ∨ cmpT a b = 1)) :
    ∀ bs, (cmpTs as bs = 0 ↔ as = bs) ∧ cmpTs bs as = -cmpTs as bs ∧ (cmpTs as bs = -1 ∨ cmpTs as bs = 0 ∨ cmpTs as bs = 1) := by
  induction as with
  | nil => intro bs; cases bs <;> simp [cmpTs]
  | cons a as ih =>
    intro bs
    cases bs with
    | nil => simp [cmpTs]
    | cons b bs =>
      obtain ⟨h1, h2, h3⟩ := h a (by simp) b
      obtain ⟨i1, i2, i3⟩ := ih (fun x hx => h x (by simp [hx])) bs
      rw [cmpTs, cmpTs]
      refine ⟨?_, orI_neg h2 i2, orI_range h3 i3⟩
      rw [orI_eq, h1, i1, List.cons.injEq]
theorem cmpT_facts (a : Tm) : ∀ b, (cmpT a b = 0 ↔ a = b) ∧ cmpT b a = -cmpT a b ∧ (cmpT a b = -1 ∨ cmpT a b = 0 ∨ cmpT a b = 1) := by
  induction a using Tm.ind with
  | h k n as ih =>
    rintro ⟨k', n', bs⟩
    obtain ⟨i1, i2, i3⟩ := cmpTs_facts as ih bs
    rw [cmpT, cmpT]
    refine ⟨?_, orI_neg (cmpI_neg ..) (orI_neg (cmpB_neg ..) (orI_neg (cmpI_neg ..) i2)), orI_range (cmpI_range ..) (orI_range (cmpB_range ..) (orI_range (cmpI_range ..) i3))⟩
    rw [orI_eq, orI_eq, orI_eq, cmpI_eq, cmpB_eq, cmpI_eq, i1, Tm.mk.injEq]
    constructor
    · rintro ⟨h1, h2, _, h4⟩; exact ⟨h1, h2, h4⟩
    · rintro ⟨h1, h2, h4⟩; exact ⟨h1, h2, by rw [h4], h4⟩
theorem cmpT_eq {a b : Tm} : cmpT a b = 0 ↔ a = b := (cmpT_facts a b).1
theorem cmpT_self (a : Tm) : cmpT a a = 0 := cmpT_eq.2 rfl
instance : DecidableEq Tm := fun _ _ => decidable_of_iff _ cmpT_eq
/-! ### Lists in their order -/
/-! ### Their parts -/
mutual
def subs : Tm → List Tm
  | .mk k n as => .mk k n as :: subsL as
def subsL : List Tm → List Tm
  | [] => []
  | t :: ts => subs t ++ subsL ts
end
mutual
/-- The parts as they are met. -/
def prt : Tm → List Tm → List Tm
  | .mk k n as, out => if .mk k n as ∈ out then out else prtL as (out ++ [.mk k n as])
def prtL : List Tm → List Tm → List Tm
  | [], out => out
  | t :: ts, out => prtL ts (prt t out)
end
/-! ### Which are terms -/
def lowS : List UInt8 := [97, 98, 99, 100, 101, 102, 103, 104, 105, 106, 107, 108, 109, 110, 111, 112, 113, 114, 115, 116, 117, 118, 119, 120, 121, 122, 48, 49, 50, 51, 52, 53, 54, 55, 56, 57]
def low (x : UInt8) : Bool := lowS.contains x
def named (s : List UInt8) : Bool := !s.isEmpty && decide (s.length ≤ 20) && s.all low
def least (k : Int) : Nat := if k = 1 then 0 else if k = 4 ∨ k = 5 then 1 else if k = 2 ∨ k = 3 ∨ k = 6 ∨ k = 7 ∨ k = 8 then 2 else 1
def most (k : Int) : Nat := if k = 1 then 0 else if k = 4 then 4 else if k = 5 then 1 else if k = 2 ∨ k = 3 ∨ k = 6 ∨ k = 7 ∨ k = 8 then 2 else 0
/-- Is a term's head right? -/
def headOk (k : Int) (n : List UInt8) (len : Nat) : Bool :=
  !(decide (len < least k) || decide (most k < len) || ((decide (k = 1) || decide (k = 4)) != named n) || (decide (k ≠ 1) && decide (k ≠ 4) && !n.isEmpty))
mutual
def shp : Tm → Bool
  | .mk k n as => headOk k n as.length && shpL as
def shpL : List Tm → Bool
  | [] => true
  | t :: ts => shp t && shpL ts
end
theorem shpL_iff {ts : List Tm} : shpL ts = true ↔ ∀ t ∈ ts, shp t = true := by
  induction ts with
  | nil => simp [shpL]
  | cons t ts ih => rw [shpL, Bool.and_eq_true, ih]; simp
theorem shp_mk {k : Int} {n : List UInt8} {as : List Tm} : shp (.mk k n as) = true ↔ headOk k n as.length = true ∧ ∀ a ∈ as, shp a = true := by rw [shp, Bool.and_eq_true, shpL_iff]
/-- The error of a term: 0, too great, none. -/
def chk (t : Tm) : Int := if 1000 < t.size ∨ 24 < t.deep then 2 else if shp t then 0 else 190
theorem chk_iff {t : Tm} : chk t = 0 ↔ t.size ≤ 1000 ∧ t.deep ≤ 24 ∧ shp t = true := by
  unfold chk
  split
  · simp; omega
  · split
    · simp [*]; omega
    · simp [*]
theorem headOk_two {k : Int} {n : List UInt8} {len : Nat} (h : headOk k n len = true) (hk : k = 2 ∨ k = 3 ∨ k = 6 ∨ k = 7 ∨ k = 8) : len = 2 ∧ n = [] := by
  unfold headOk at h
  have h4 : k ≠ 4 := by omega
  have h1 : k ≠ 1 := by omega
  have h5 : k ≠ 5 := by omega
  have hl : least k = 2 := by unfold least; rw [if_neg h1, if_neg (by omega), if_pos hk]
  have hm : most k = 2 := by unfold most; rw [if_neg h1, if_neg h4, if_neg h5, if_pos hk]
  rw [hl, hm] at h
  simp [h1, h4] at h
  exact ⟨by omega, h.2⟩
theorem headOk_five {n : List UInt8} {len : Nat} (h : headOk 5 n len = true) : len = 1 ∧ n = [] := by
  unfold headOk at h
  simp [least, most] at h
  exact ⟨by omega, h.2⟩
theorem headOk_one {n : List UInt8} {len : Nat} (h : headOk 1 n len = true) : len = 0 ∧ named n = true := by
  unfold headOk at h
  simp [least, most] at h
  exact ⟨h.1, h.2⟩
theorem headOk_four {n : List UInt8} {len : Nat} (h : headOk 4 n len = true) : 1 ≤ len ∧ len ≤ 4 ∧ named n = true := by
  unfold headOk at h
  simp [least, most] at h
  exact ⟨by omega, h.1.2, h.2⟩
theorem headOk_kinds {k : Int} {n : List UInt8} {len : Nat} (h : headOk k n len = true) : k = 1 ∨ k = 2 ∨ k = 3 ∨ k = 4 ∨ k = 5 ∨ k = 6 ∨ k = 7 ∨ k = 8 := by
  by_cases hk : k = 1 ∨ k = 2 ∨ k = 3 ∨ k = 4 ∨ k = 5 ∨ k = 6 ∨ k = 7 ∨ k = 8
  · exact hk
  · exfalso
    unfold headOk at h
    have hl : least k = 1 := by unfold least; rw [if_neg (by omega), if_neg (by omega), if_neg (by omega)]
    have hm : most k = 0 := by unfold most; rw [if_neg (by omega), if_neg (by omega), if_neg (by omega), if_neg (by omega)]
    rw [hl, hm] at h
    simp at h

/-! ### Their one form -/
/-- Two in their order. -/
def two : List Tm → List Tm
  | [a, b] => if cmpT b a < 0 then [b, a] else [a, b]
  | l => l
def nrm1 (k : Int) (n : List UInt8) (bs : List Tm) : Tm :=
  match bs with
  | [a, .mk 5 m [c]] => if k = 7 then .mk 6 [] (two [a, c]) else if k = 6 then .mk 6 n (two [a, .mk 5 m [c]]) else .mk k n [a, .mk 5 m [c]]
  | l => if k = 6 then .mk 6 n (two l) else .mk k n l
mutual
def nrm : Tm → Tm
  | .mk k n as => nrm1 k n (nrmL as)
def nrmL : List Tm → List Tm
  | [] => []
  | t :: ts => nrm t :: nrmL ts
end
theorem nrmL_map (ts : List Tm) : nrmL ts = ts.map nrm := by
  induction ts with
  | nil => rfl
  | cons t ts ih => rw [nrmL, ih, List.map_cons]
end Go.Proofs.YtlpkcbkflfbclaaDoor.S

namespace Go.Proofs.YtlpkcbkflfbclaaDoor.S

theorem headOk_le4 {k : Int} {n : List UInt8} {len : Nat} (h : headOk k n len = true) : len ≤ 4 := by
  rcases headOk_kinds h with rfl | rfl | rfl | rfl | rfl | rfl | rfl | rfl
  · have := (headOk_one h).1; omega
  · have := (headOk_two h (by decide)).1; omega
  · have := (headOk_two h (by decide)).1; omega
  · have := (headOk_four h).2.1; omega
  · have := (headOk_five h).1; omega
  · have := (headOk_two h (by decide)).1; omega
  · have := (headOk_two h (by decide)).1; omega
  · have := (headOk_two h (by decide)).1; omega
theorem nrm1_else {k : Int} {n : List UInt8} {l : List Tm} (h7 : k ≠ 7) (h6 : k ≠ 6) : nrm1 k n l = .mk k n l := by
  unfold nrm1; split <;> simp [h7, h6]
theorem nrm1_six {n : List UInt8} {l : List Tm} : nrm1 6 n l = .mk 6 n (two l) := by
  unfold nrm1; split <;> simp
theorem nrm1_pub {n m : List UInt8} {a c : Tm} : nrm1 7 n [a, .mk 5 m [c]] = .mk 6 [] (two [a, c]) := by simp [nrm1]
theorem nrm1_seven {n : List UInt8} {a b : Tm} (h : b.kind ≠ 5) : nrm1 7 n [a, b] = .mk 7 n [a, b] := by
  unfold nrm1
  split
  · rename_i heq
    obtain ⟨rfl, rfl⟩ : _ ∧ b = _ := by simpa using heq
    exact absurd rfl h
  · simp
theorem two_mem {l : List Tm} {x : Tm} : x ∈ two l ↔ x ∈ l := by
  unfold two
  split
  · split <;> simp [or_comm]
  · rfl
theorem two_len (l : List Tm) : (two l).length = l.length := by
  unfold two
  split
  · split <;> rfl
  · rfl
theorem nrmL_len (ts : List Tm) : (nrmL ts).length = ts.length := by rw [nrmL_map, List.length_map]
theorem shp_nrm (x : Tm) (h : shp x = true) : shp (nrm x) = true := by
  induction x using Tm.ind with
  | h k n ts ih =>
    obtain ⟨h1, h2⟩ := shp_mk.1 h
    have hl : ∀ a ∈ nrmL ts, shp a = true := by
      intro a ha
      rw [nrmL_map] at ha
      obtain ⟨b, hb, rfl⟩ := List.mem_map.1 ha
      exact ih b hb (h2 b hb)
    rw [nrm]
    by_cases h7 : k = 7
    · subst h7
      obtain ⟨hlen, rfl⟩ := headOk_two h1 (by decide)
      match ts, hlen, hl with
      | [p, q], _, hl =>
        have hp := hl (nrm p) (by simp [nrmL])
        have hq := hl (nrm q) (by simp [nrmL])
        have e : nrmL [p, q] = [nrm p, nrm q] := rfl
        rw [e]
        generalize nrm p = p' at *
        generalize hq' : nrm q = q' at *
        obtain ⟨kq, nq, aq⟩ := q'
        by_cases h5 : kq = 5
        · subst h5
          obtain ⟨g1, g2⟩ := shp_mk.1 hq
          obtain ⟨gl, rfl⟩ := headOk_five g1
          obtain ⟨c, rfl⟩ := List.length_eq_one_iff.1 gl
          rw [nrm1_pub, shp_mk]
          refine ⟨by rw [two_len]; exact (show headOk 6 [] 2 = true by decide), fun a ha => ?_⟩
          rw [two_mem] at ha
          rcases List.mem_cons.1 ha with rfl | ha
          · exact hp
          · rw [List.mem_singleton] at ha; subst ha; exact g2 _ (by simp)
        · rw [nrm1_seven (b := .mk kq nq aq) h5, shp_mk]
          refine ⟨(show headOk 7 [] 2 = true by decide), fun a ha => ?_⟩
          rcases List.mem_cons.1 ha with rfl | ha
          · exact hp
          · rw [List.mem_singleton] at ha; subst ha; exact hq
    · by_cases h6 : k = 6
      · subst h6
        rw [nrm1_six, shp_mk]
        exact ⟨by rw [two_len, nrmL_len]; exact h1, fun a ha => hl a (two_mem.1 ha)⟩
      · rw [nrm1_else h7 h6, shp_mk]
        exact ⟨by rw [nrmL_len]; exact h1, hl⟩
end Go.Proofs.YtlpkcbkflfbclaaDoor.S

namespace Go.Proofs.YtlpkcbkflfbclaaDoor.S

section
variable {K K' : Tm → Prop}
end

/-! ### Sets as lists -/
end Go.Proofs.YtlpkcbkflfbclaaDoor.S

namespace Go.Proofs.YtlpkcbkflfbclaaDoor.S

end Go.Proofs.YtlpkcbkflfbclaaDoor.S

namespace Go.Proofs.YtlpkcbkflfbclaaDoor.S

/-! ### Counting -/
/-! ### What is known -/
/-! ### One forms -/
/-! ### What stands nowhere helps nobody -/
section
variable {K : Tm → Prop} {s a : Tm} {n : List UInt8}
end
/-! ### The first example -/
end Go.Proofs.YtlpkcbkflfbclaaDoor.S
