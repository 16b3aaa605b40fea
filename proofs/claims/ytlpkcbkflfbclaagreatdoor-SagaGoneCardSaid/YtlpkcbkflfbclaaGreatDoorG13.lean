/- Who was removed, and who never belonged: the plain law. -/
import Derived.Test.YtlpkcbkflfbclaaGreatDoorG12
namespace Go.Proofs.YtlpkcbkflfbclaaGreatDoor.S
open Go.RowKit

/-! ### Events that only change a group and say something, and people laid bare around them -/
def goneE (e : Int × Int) : Bool := decide (1 ≤ e.1 ∧ e.1 < 4 ∧ 1 ≤ e.2 ∧ e.2 ≤ 6)
def BareE (ns : List Nat) (e : Int × Int) : Prop := e.1 = 4 ∧ ∃ n ∈ ns, e.2 = (n : Int) ∧ 1 ≤ n ∧ n ≤ 6
def proj (s : Sg) : List Nat × Nat × Nat × List Td := (s.names, s.epoch, s.says, s.told)
theorem step_lay4 {s : Sg} {w : Nat} (h1 : 1 ≤ w) (h6 : w ≤ 6) : s.step 4 (w : Int) = (0, s.lay w) := by
  unfold Sg.step
  rw [if_neg (by omega), if_neg (fun h => absurd h.1 (by decide)), if_neg (fun h => absurd h.1 (by decide)), if_neg (fun h => absurd h.1 (by decide)), if_pos rfl, Int.toNat_natCast]
theorem step_gone {s : Sg} {e : Int × Int} (h : goneE e = true) : (s.step e.1 e.2).1 = 0 := by
  unfold goneE at h
  have h := of_decide_eq_true h
  unfold Sg.step
  rw [if_neg (by omega)]
  repeat' split
  all_goals first | rfl | omega
theorem step_proj {s s' : Sg} {e : Int × Int} (h : goneE e = true) (hp : proj s = proj s') : proj (s.step e.1 e.2).2 = proj (s'.step e.1 e.2).2 ∧ (s.step e.1 e.2).2.bare = s.bare := by
  unfold goneE at h
  have h := of_decide_eq_true h
  simp only [proj, Prod.mk.injEq] at hp
  obtain ⟨p1, p2, p3, p4⟩ := hp
  unfold Sg.step
  have g : ¬ (e.2 < 1 ∨ 6 < e.2) := by omega
  have g4 : ¬ e.1 = 4 := by omega
  have g5 : ¬ (e.1 < 1 ∨ 4 < e.1) := by omega
  rw [if_neg g, if_neg g, p1]
  by_cases c1 : e.1 = 1 ∧ e.2.toNat ∉ s'.names
  · rw [if_pos c1, if_pos c1]; exact ⟨by simp [proj, Sg.turn, p1, p2, p3, p4], rfl⟩
  rw [if_neg c1, if_neg c1]
  by_cases c2 : e.1 = 2 ∧ e.2.toNat ∈ s'.names
  · rw [if_pos c2, if_pos c2]; exact ⟨by simp [proj, Sg.turn, p1, p2, p3, p4], rfl⟩
  rw [if_neg c2, if_neg c2]
  by_cases c3 : e.1 = 3 ∧ e.2.toNat ∈ s'.names
  · rw [if_pos c3, if_pos c3]; exact ⟨by simp [proj, Sg.say, p1, p2, p3, p4], rfl⟩
  rw [if_neg c3, if_neg c3, if_neg g4, if_neg g4, if_neg g5, if_neg g5]
  exact ⟨by simp [proj, p1, p2, p3, p4], rfl⟩
theorem runs_gone {es : List (Int × Int)} (h : ∀ e ∈ es, goneE e = true) : ∀ {s s' : Sg}, proj s = proj s' → (s.runs es).1 = 0 ∧ proj (s.runs es).2 = proj (s'.runs es).2 ∧ (s.runs es).2.bare = s.bare := by
  induction es with
  | nil => intro s s' hp; exact ⟨rfl, hp, rfl⟩
  | cons e es ih =>
    intro s s' hp
    have he := h e (by simp)
    obtain ⟨h1, h2⟩ := step_proj he hp
    obtain ⟨i1, i2, i3⟩ := ih (fun x hx => h x (by simp [hx])) h1
    rw [Sg.runs, Sg.runs, if_pos (step_gone he), if_pos (step_gone he)]
    exact ⟨i1, i2, i3.trans h2⟩
theorem runs_bare {ns : List Nat} {es : List (Int × Int)} (h : ∀ e ∈ es, BareE ns e) : ∀ {s : Sg}, (s.runs es).1 = 0 ∧ proj (s.runs es).2 = proj s ∧ ((∀ n ∈ s.bare, n ∈ ns) → ∀ n ∈ (s.runs es).2.bare, n ∈ ns) := by
  induction es with
  | nil => intro s; exact ⟨rfl, rfl, fun h => h⟩
  | cons e es ih =>
    intro s
    obtain ⟨h4, n, hn, hw, h1, h6⟩ := h e (by simp)
    obtain ⟨k, w⟩ := e
    dsimp only at h4 hw
    subst h4 hw
    have hst := step_lay4 (s := s) h1 h6
    obtain ⟨i1, i2, i3⟩ := ih (fun x hx => h x (by simp [hx])) (s := s.lay n)
    rw [Sg.runs]
    dsimp only
    rw [hst, if_pos rfl]
    refine ⟨i1, i2, fun hb => i3 fun m hm => ?_⟩
    unfold Sg.lay at hm
    dsimp only at hm
    split at hm
    · exact hb m hm
    · rcases List.mem_append.1 hm with hm | hm
      · exact hb m hm
      · rw [List.mem_singleton] at hm; subst hm; exact hn
/-- What is said in an epoch to which none of those belong stays secret though they all are laid bare. -/
theorem gone_law {ns : List Nat} {A B base : List (Int × Int)} (hA : ∀ e ∈ A, BareE ns e) (hB : ∀ e ∈ B, BareE ns e) (hb : ∀ e ∈ base, goneE e = true) (hl : (A ++ (base ++ B)).length ≤ 24) :
    (sgRun base).1 = 0 ∧ (sgRun (A ++ (base ++ B))).1 = 0 ∧ ∀ t ∈ (sgOut base).told, (∀ n ∈ t.names, n ∉ ns) → t ∈ secL (A ++ (base ++ B)) := by
  have hl2 : base.length ≤ 24 := by rw [List.length_append, List.length_append] at hl; omega
  have r1 : sgRun base = Sg.init.runs base := sgRun_few hl2
  have r2 : sgRun (A ++ (base ++ B)) = Sg.init.runs (A ++ (base ++ B)) := sgRun_few hl
  obtain ⟨a1, a2, a3⟩ := runs_bare hA (s := Sg.init)
  obtain ⟨b1, b2, b3⟩ := runs_gone hb a2
  obtain ⟨d1, _, _⟩ := runs_gone hb (s := Sg.init) (s' := Sg.init) rfl
  obtain ⟨c1, c2, c3⟩ := runs_bare hB (s := ((Sg.init.runs A).2.runs base).2)
  have e2 : Sg.init.runs (A ++ (base ++ B)) = ((Sg.init.runs A).2.runs base).2.runs B := by
    rw [runs_app, if_pos a1, runs_app, if_pos b1]
  have z1 : (sgRun base).1 = 0 := by rw [r1]; exact d1
  have z2 : (sgRun (A ++ (base ++ B))).1 = 0 := by rw [r2, e2]; exact c1
  refine ⟨z1, z2, fun t ht hno => ?_⟩
  have o1 : sgOut base = (Sg.init.runs base).2 := by unfold sgOut; rw [if_pos z1, r1]
  have o2 : sgOut (A ++ (base ++ B)) = (((Sg.init.runs A).2.runs base).2.runs B).2 := by unfold sgOut; rw [if_pos z2, r2, e2]
  have hp : proj (sgOut (A ++ (base ++ B))) = proj (sgOut base) := by rw [o1, o2]; exact c2.trans b2
  have htold : (sgOut (A ++ (base ++ B))).told = (sgOut base).told := by simp only [proj, Prod.mk.injEq] at hp; exact hp.2.2.2
  have hbare : ∀ n ∈ (sgOut (A ++ (base ++ B))).bare, n ∈ ns := by
    rw [o2]
    refine c3 ?_
    rw [b3]
    exact a3 fun n hn => by cases hn
  have hI := out_inv z2
  unfold secL
  rw [List.mem_filter, htold]
  refine ⟨ht, ?_⟩
  obtain ⟨i, hi⟩ := List.getElem?_of_mem ht
  obtain ⟨_, _, hwho, _⟩ := tells_at (out_inv z1) hi
  cases ho : t.open (sgOut (A ++ (base ++ B))) with
  | false => rfl
  | true =>
    exfalso
    unfold Td.open at ho
    simp only [Bool.or_eq_true, List.any_eq_true, decide_eq_true_eq] at ho
    rcases ho with ⟨n, h1, _, h3⟩ | ⟨h1, _⟩ | h
    · exact hno n h1 (hbare n h3)
    · exact hno _ hwho (hbare _ h1)
    · exact hno _ hwho (hbare _ (hI.ky _ h).1)
/-! ### The loops -/
end Go.Proofs.YtlpkcbkflfbclaaGreatDoor.S
