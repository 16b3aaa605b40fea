/- A saga and a roster: who belongs to both. Plain laws. -/
import Derived.Test.YtfjedhmffccgnaaGreatDoorSgSpec
import Derived.Test.YtfjedhmffccgnaaGreatDoorOpsP
namespace Go.Proofs.YtfjedhmffccgnaaGreatDoor.S
open Go.RowKit
def key1 : List UInt8 := 1 :: List.replicate 31 0
def key9 : List UInt8 := 9 :: List.replicate 31 0
def keyZ : List UInt8 := List.replicate 32 0
def mbW (p : List UInt8) (n : Nat) : Mb := if n = 9 then ⟨9, true, p, keyZ⟩ else ⟨n, false, key1, keyZ⟩
def mbsW (p : List UInt8) (ns : List Nat) : List Mb := (ns ++ [9]).map (mbW p)
theorem mbW_name (p : List UInt8) (n : Nat) : (mbW p n).name = n := by unfold mbW; split <;> simp_all
theorem mbW_in {p : List UInt8} {n : Nat} (h : n ≤ 6) : mbW p n = ⟨n, false, key1, keyZ⟩ := if_neg zw
theorem mbW_nine (p : List UInt8) : mbW p 9 = ⟨9, true, p, keyZ⟩ := rfl
theorem lowN_map (p : List UInt8) (l : List Nat) (w : Nat) : lowN (l.map (mbW p)) w = l.countP (fun n => decide (n < w)) := by
 unfold lowN; rw [List.countP_map]; congr 1; funext n; simp [mbW_name]
theorem asc_same : ∀ {l m : List Nat}, l.Pairwise (· < ·) → m.Pairwise (· < ·) → (∀ n, n ∈ l ↔ n ∈ m) → l = m
 | [], [], _, _, _ => rfl
 | [], b :: m, _, _, h => absurd ((h b).2 (by simp)) (by simp)
 | a :: l, [], _, _, h => absurd ((h a).1 (by simp)) (by simp)
 | a :: l, b :: m, hl, hm, h => by
  have ha := List.pairwise_cons.1 hl; have hb := List.pairwise_cons.1 hm
  have e : a = b := by
   rcases List.mem_cons.1 ((h a).1 (by simp)) with e | e
   · exact e
   ·
    rcases List.mem_cons.1 ((h b).2 (by simp)) with e' | e'
    · exact e'.symm
    · have := ha.1 b e'; have := hb.1 a e; omega
  subst e
  rw [asc_same ha.2 hb.2 fun n => ⟨fun hn => by
   rcases List.mem_cons.1 ((h n).1 (List.mem_cons_of_mem _ hn)) with e | e
   · subst e; exact absurd (ha.1 n hn) (Nat.lt_irrefl _)
   · exact e, fun hn => by
   rcases List.mem_cons.1 ((h n).2 (List.mem_cons_of_mem _ hn)) with e | e
   · subst e; exact absurd (hb.1 n hn) (Nat.lt_irrefl _)
   · exact e⟩]
def fil (b1 b2 b3 b4 b5 b6 : Bool) : List Nat := (bif b1 then [1] else []) ++ ((bif b2 then [2] else []) ++ ((bif b3 then [3] else []) ++ ((bif b4 then [4] else []) ++ ((bif b5 then [5] else []) ++ (bif b6 then [6] else [])))))
theorem fil_of {ns : List Nat} (h : ns.Pairwise (· < ·)) (h6 : ∀ n ∈ ns, 1 ≤ n ∧ n ≤ 6) : ∃ b1 b2 b3 b4 b5 b6, ns = fil b1 b2 b3 b4 b5 b6 := by
 refine ⟨decide (1 ∈ ns), decide (2 ∈ ns), decide (3 ∈ ns), decide (4 ∈ ns), decide (5 ∈ ns), decide (6 ∈ ns), asc_same h ?_ fun n => ?_⟩
 ·
  have : ∀ b1 b2 b3 b4 b5 b6, (fil b1 b2 b3 b4 b5 b6).Pairwise (· < ·) := by decide +kernel
  exact this _ _ _ _ _ _
 ·
  have key : ∀ b1 b2 b3 b4 b5 b6, n ∈ fil b1 b2 b3 b4 b5 b6 ↔ (b1 = true ∧ n = 1) ∨ (b2 = true ∧ n = 2) ∨ (b3 = true ∧ n = 3) ∨ (b4 = true ∧ n = 4) ∨ (b5 = true ∧ n = 5) ∨ (b6 = true ∧ n = 6) := by
   intro b1 b2 b3 b4 b5 b6
   unfold fil
   cases b1 <;> cases b2 <;> cases b3 <;> cases b4 <;> cases b5 <;> cases b6 <;> simp
  rw [key]
  simp only [decide_eq_true_eq]
  constructor
  ·
   intro hn
   have := h6 n hn
   rcases (show n = 1 ∨ n = 2 ∨ n = 3 ∨ n = 4 ∨ n = 5 ∨ n = 6 by omega) with rfl | rfl | rfl | rfl | rfl | rfl <;> simp [hn]
  · rintro (⟨h, rfl⟩ | ⟨h, rfl⟩ | ⟨h, rfl⟩ | ⟨h, rfl⟩ | ⟨h, rfl⟩ | ⟨h, rfl⟩) <;> exact h
theorem ins_fil : ∀ b1 b2 b3 b4 b5 b6, ∀ w ∈ [1, 2, 3, 4, 5, 6], w ∉ fil b1 b2 b3 b4 b5 b6 → (fil b1 b2 b3 b4 b5 b6 ++ [9]).take ((fil b1 b2 b3 b4 b5 b6 ++ [9]).countP (fun n => decide (n < w))) ++ w :: (fil b1 b2 b3 b4 b5 b6 ++ [9]).drop ((fil b1 b2 b3 b4 b5 b6 ++ [9]).countP (fun n => decide (n < w))) = addN (fil b1 b2 b3 b4 b5 b6) w ++ [9] := by decide +kernel
theorem del_fil : ∀ b1 b2 b3 b4 b5 b6, ∀ w ∈ [1, 2, 3, 4, 5, 6], w ∈ fil b1 b2 b3 b4 b5 b6 → (fil b1 b2 b3 b4 b5 b6 ++ [9]).eraseIdx ((fil b1 b2 b3 b4 b5 b6 ++ [9]).countP (fun n => decide (n < w))) = delN (fil b1 b2 b3 b4 b5 b6) w ++ [9] := by decide +kernel
section
variable {p : List UInt8} {ns : List Nat} {w : Nat} (h : ns.Pairwise (· < ·)) (h6 : ∀ n ∈ ns, 1 ≤ n ∧ n ≤ 6) (hw : 1 ≤ w ∧ w ≤ 6)
include h h6 hw
theorem mbs_add (hn : w ∉ ns) : (mbsW p ns).take (lowN (mbsW p ns) w) ++ ⟨w, false, key1, keyZ⟩ :: (mbsW p ns).drop (lowN (mbsW p ns) w) = mbsW p (addN ns w) := by
 obtain ⟨b1, b2, b3, b4, b5, b6, rfl⟩ := fil_of h h6
 have := ins_fil b1 b2 b3 b4 b5 b6 w (six_mem hw) hn
 unfold mbsW
 rw [lowN_map, ← this]
 generalize fil b1 b2 b3 b4 b5 b6 ++ [9] = L
 rw [List.map_append, List.map_cons, List.map_take, List.map_drop, mbW_in hw.2]
theorem mbs_rem (hn : w ∈ ns) : (mbsW p ns).eraseIdx (lowN (mbsW p ns) w) = mbsW p (delN ns w) := by
 obtain ⟨b1, b2, b3, b4, b5, b6, rfl⟩ := fil_of h h6
 have := del_fil b1 b2 b3 b4 b5 b6 w (six_mem hw) hn
 unfold mbsW
 rw [lowN_map, ← this]
 generalize fil b1 b2 b3 b4 b5 b6 ++ [9] = L
 rw [List.eraseIdx_eq_take_drop_succ, List.eraseIdx_eq_take_drop_succ, List.map_append, List.map_take, List.map_drop]
end
theorem mbsW_ok {p : List UInt8} (hp : p.length = 32) {ns : List Nat} (h : ns.Pairwise (· < ·)) (h6 : ∀ n ∈ ns, 1 ≤ n ∧ n ≤ 6) : MbsOk (mbsW p ns) := by
 have hl := asc_len h h6
 refine ⟨by unfold mbsW; rw [List.length_map, List.length_append, List.length_singleton]; omega, fun m hm => ?_, ?_⟩
 ·
  obtain ⟨n, hn, rfl⟩ := List.mem_map.1 hm
  rcases List.mem_append.1 hn with hn | hn
  ·
   have := h6 n hn
   rw [mbW_in this.2]; exact ⟨by show n < _; omega, rfl, rfl⟩
  ·
   rw [List.mem_singleton] at hn; subst hn
   rw [mbW_nine]; exact ⟨(by decide : 9 < 4294967296), hp, rfl⟩
 ·
  unfold mbsW
  rw [List.pairwise_map]
  have : (ns ++ [9]).Pairwise (· < ·) := List.pairwise_append.2 ⟨h, by simp, fun a ha b hb => by rw [List.mem_singleton] at hb; subst hb; have := h6 a ha; omega⟩
  exact this.imp fun hab => by rw [mbW_name, mbW_name]; exact hab
theorem mbsW_has {p : List UInt8} {ns : List Nat} {w : Nat} (hw : w ≤ 6) : HasM (mbsW p ns) w ↔ w ∈ ns := by
 unfold HasM mbsW
 constructor
 ·
  rintro ⟨m, hm, e⟩
  obtain ⟨n, hn, rfl⟩ := List.mem_map.1 hm
  rw [mbW_name] at e; subst e
  rcases List.mem_append.1 hn with h | h
  · exact h
  · rw [List.mem_singleton] at h; omega
 · intro h; exact ⟨mbW p w, List.mem_map.2 ⟨w, List.mem_append_left _ h, rfl⟩, mbW_name p w⟩
theorem mbsW_mem {p : List UInt8} {ns : List Nat} {w : Nat} (h : w ∈ ns) : mbW p w ∈ mbsW p ns := List.mem_map.2 ⟨w, List.mem_append_left _ h, rfl⟩
theorem mbsW_nine (p : List UInt8) (ns : List Nat) : mbW p 9 ∈ mbsW p ns := List.mem_map.2 ⟨9, List.mem_append_right _ (by simp), rfl⟩
theorem mbsW_len (p : List UInt8) (ns : List Nat) : (mbsW p ns).length = ns.length + 1 := by unfold mbsW; rw [List.length_map, List.length_append, List.length_singleton]
theorem mbsW_names (p : List UInt8) (ns : List Nat) : ((mbsW p ns).map fun m => u32V m.name) = (ns ++ [9]).map u32V := by
 unfold mbsW; rw [List.map_map]; congr 1; funext n; simp [mbW_name]
theorem mbsW_new (p : List UInt8) : ([] : List Mb).take (lowN [] 9) ++ ⟨9, true, p, keyZ⟩ :: ([] : List Mb).drop (lowN [] 9) = mbsW p [] := rfl
theorem runs_zero {s : Sg} {k w : Int} {l : List (Int × Int)} (h : (s.runs ((k, w) :: l)).1 = 0) : (s.step k w).1 = 0 := by
 rw [Sg.runs] at h
 by_cases c : (s.step k w).1 = 0
 · exact c
 · rw [if_neg c] at h; exact absurd h c
theorem runs_next {s : Sg} {k w : Int} {l : List (Int × Int)} (h : (s.step k w).1 = 0) : s.runs ((k, w) :: l) = (s.step k w).2.runs l := by rw [Sg.runs, if_pos h]
theorem step_zero {s : Sg} {k w : Int} (h : (s.step k w).1 = 0) : (1 ≤ w ∧ w ≤ 6) ∧ 1 ≤ k ∧ k ≤ 4 := by
 unfold Sg.step at h
 by_cases c : w < 1 ∨ 6 < w
 · rw [if_pos c] at h; cases h
 ·
  rw [if_neg c] at h
  refine ⟨by omega, ?_⟩
  by_cases c1 : k = 1 ∧ w.toNat ∉ s.names
  · omega
  ·
   rw [if_neg c1] at h
   by_cases c2 : k = 2 ∧ w.toNat ∈ s.names
   · omega
   ·
    rw [if_neg c2] at h
    by_cases c3 : k = 3 ∧ w.toNat ∈ s.names
    · omega
    ·
     rw [if_neg c3] at h
     by_cases c4 : k = 4
     · omega
     ·
      rw [if_neg c4] at h
      by_cases c5 : k < 1 ∨ 4 < k
      · rw [if_pos c5] at h; cases h
      · omega
theorem told_step (s : Sg) (k w : Int) : ∃ r, (s.step k w).2.told = s.told ++ r := by
 unfold Sg.step
 repeat' split
 all_goals first | exact ⟨[], (List.append_nil _).symm⟩ | exact ⟨_, rfl⟩
theorem told_runs : ∀ {es : List (Int × Int)} {s : Sg}, ∃ r, (s.runs es).2.told = s.told ++ r
 | [], s => ⟨[], (List.append_nil _).symm⟩
 | e :: es, s => by
  rw [Sg.runs]
  split
  ·
   obtain ⟨r, h1⟩ := told_runs (es := es) (s := (s.step e.1 e.2).2)
   obtain ⟨q, h2⟩ := told_step s e.1 e.2
   exact ⟨q ++ r, by rw [h1, h2, List.append_assoc]⟩
  · exact ⟨[], (List.append_nil _).symm⟩
theorem told_say {s : Sg} {w : Nat} {es : List (Int × Int)} : ((s.say w).runs es).2.told[s.told.length]? = some ⟨w, s.epoch, s.names, s.says + 1⟩ := by
 obtain ⟨r, h⟩ := told_runs (es := es) (s := s.say w)
 rw [h]
 show ((s.told ++ [_]) ++ r)[s.told.length]? = _
 rw [List.append_assoc, List.getElem?_append_right (Nat.le_refl _), Nat.sub_self]; rfl
end Go.Proofs.YtfjedhmffccgnaaGreatDoor.S
