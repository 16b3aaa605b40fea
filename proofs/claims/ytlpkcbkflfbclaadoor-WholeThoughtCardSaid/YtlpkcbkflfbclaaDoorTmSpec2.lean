/- The one form of a term: its shape, its parts. Plain Lean: no program in this text. -/
import Derived.Test.YtlpkcbkflfbclaaDoorTmSpec
namespace Go.Proofs.YtlpkcbkflfbclaaDoor.S

theorem headOk_le4 {k : Int} {n : List UInt8} {len : Nat} (h : headOk k n len = true) : len ≤ 4 := by
  rcases headOk_kinds h with rfl | rfl | rfl | rfl | rfl | rfl | rfl | rfl
  · have := (headOk_one h).1; omega
  · have := (headOk_two h (by decide)).1; omega
  · have := (headOk_two h (by decide)).1; omega
  · have := (headOk_four h).2.1; omega
  · have := (headOk_five h).1; omega
  · have := (headOk_two h (by decide)).1; omega
  · have := (headOk_two h (by decide)).1; omega
  · have := (headOk_two h (by decide)).1; omega
theorem nrm1_else {k : Int} {n : List UInt8} {l : List Tm} (h7 : k ≠ 7) (h6 : k ≠ 6) : nrm1 k n l = .mk k n l := by
  unfold nrm1; split <;> simp [h7, h6]
theorem nrm1_six {n : List UInt8} {l : List Tm} : nrm1 6 n l = .mk 6 n (two l) := by
  unfold nrm1; split <;> simp
theorem nrm1_pub {n m : List UInt8} {a c : Tm} : nrm1 7 n [a, .mk 5 m [c]] = .mk 6 [] (two [a, c]) := by simp [nrm1]
theorem nrm1_seven {n : List UInt8} {a b : Tm} (h : b.kind ≠ 5) : nrm1 7 n [a, b] = .mk 7 n [a, b] := by
  unfold nrm1
  split
  · rename_i heq
    obtain ⟨rfl, rfl⟩ : _ ∧ b = _ := by simpa using heq
    exact absurd rfl h
  · simp
theorem two_mem {l : List Tm} {x : Tm} : x ∈ two l ↔ x ∈ l := by
  unfold two
  split
  · split <;> simp [or_comm]
  · rfl
theorem two_len (l : List Tm) : (two l).length = l.length := by
  unfold two
  split
  · split <;> rfl
  · rfl
theorem nrmL_len (ts : List Tm) : (nrmL ts).length = ts.length := by rw [nrmL_map, List.length_map]
theorem shp_nrm (x : Tm) (h : shp x = true) : shp (nrm x) = true := by
  induction x using Tm.ind with
  | h k n ts ih =>
    obtain ⟨h1, h2⟩ := shp_mk.1 h
    have hl : ∀ a ∈ nrmL ts, shp a = true := by
      intro a ha
      rw [nrmL_map] at ha
      obtain ⟨b, hb, rfl⟩ := List.mem_map.1 ha
      exact ih b hb (h2 b hb)
    rw [nrm]
    by_cases h7 : k = 7
    · subst h7
      obtain ⟨hlen, rfl⟩ := headOk_two h1 (by decide)
      match ts, hlen, hl with
      | [p, q], _, hl =>
        have hp := hl (nrm p) (by simp [nrmL])
        have hq := hl (nrm q) (by simp [nrmL])
        have e : nrmL [p, q] = [nrm p, nrm q] := rfl
        rw [e]
        generalize nrm p = p' at *
        generalize hq' : nrm q = q' at *
        obtain ⟨kq, nq, aq⟩ := q'
        by_cases h5 : kq = 5
        · subst h5
          obtain ⟨g1, g2⟩ := shp_mk.1 hq
          obtain ⟨gl, rfl⟩ := headOk_five g1
          obtain ⟨c, rfl⟩ := List.length_eq_one_iff.1 gl
          rw [nrm1_pub, shp_mk]
          refine ⟨by rw [two_len]; exact (show headOk 6 [] 2 = true by decide), fun a ha => ?_⟩
          rw [two_mem] at ha
          rcases List.mem_cons.1 ha with rfl | ha
          · exact hp
          · rw [List.mem_singleton] at ha; subst ha; exact g2 _ (by simp)
        · rw [nrm1_seven (b := .mk kq nq aq) h5, shp_mk]
          refine ⟨(show headOk 7 [] 2 = true by decide), fun a ha => ?_⟩
          rcases List.mem_cons.1 ha with rfl | ha
          · exact hp
          · rw [List.mem_singleton] at ha; subst ha; exact hq
    · by_cases h6 : k = 6
      · subst h6
        rw [nrm1_six, shp_mk]
        exact ⟨by rw [two_len, nrmL_len]; exact h1, fun a ha => hl a (two_mem.1 ha)⟩
      · rw [nrm1_else h7 h6, shp_mk]
        exact ⟨by rw [nrmL_len]; exact h1, hl⟩
/-- What a one form is made of are one forms of what it was made of. -/
theorem subs_nrm (x : Tm) (h : shp x = true) : ∀ y ∈ subs (nrm x), ∃ z ∈ subs x, y = nrm z := by
  induction x using Tm.ind with
  | h k n ts ih =>
    obtain ⟨h1, h2⟩ := shp_mk.1 h
    intro y hy
    have hargs : ∀ a ∈ nrmL ts, ∀ y ∈ subs a, ∃ z ∈ subs (Tm.mk k n ts), y = nrm z := by
      intro a ha y hy
      rw [nrmL_map] at ha
      obtain ⟨b, hb, rfl⟩ := List.mem_map.1 ha
      obtain ⟨z, hz, rfl⟩ := ih b hb (h2 b hb) y hy
      exact ⟨z, subs_arg hb hz, rfl⟩
    by_cases hself : y = nrm (.mk k n ts)
    · exact ⟨_, subs_self _, hself⟩
    rw [nrm] at hy hself
    by_cases h7 : k = 7
    · subst h7
      obtain ⟨hlen, rfl⟩ := headOk_two h1 (by decide)
      match ts, hlen, hargs, hy, hself with
      | [p, q], _, hargs, hy, hself =>
        have e : nrmL [p, q] = [nrm p, nrm q] := rfl
        rw [e] at hargs hy hself
        have a1 := hargs (nrm p) (by simp)
        have a2 := hargs (nrm q) (by simp)
        have hq := shp_nrm q (h2 q (by simp))
        generalize nrm p = p' at *
        generalize hq' : nrm q = q' at *
        obtain ⟨kq, nq, aq⟩ := q'
        by_cases h5 : kq = 5
        · subst h5
          obtain ⟨gl, rfl⟩ := headOk_five (shp_mk.1 hq).1
          obtain ⟨c, rfl⟩ := List.length_eq_one_iff.1 gl
          rw [nrm1_pub] at hy hself
          rcases mem_subs.1 hy with hy2 | ⟨a, ha, hy2⟩
          · exact absurd hy2 hself
          · rw [two_mem] at ha
            rcases List.mem_cons.1 ha with rfl | ha
            · exact a1 y hy2
            · rw [List.mem_singleton] at ha; subst ha; exact a2 y (subs_arg (by simp) hy2)
        · rw [nrm1_seven (b := .mk kq nq aq) h5] at hy hself
          rcases mem_subs.1 hy with hy2 | ⟨a, ha, hy2⟩
          · exact absurd hy2 hself
          · rcases List.mem_cons.1 ha with rfl | ha
            · exact a1 y hy2
            · rw [List.mem_singleton] at ha; subst ha; exact a2 y hy2
    · by_cases h6 : k = 6
      · subst h6
        rw [nrm1_six] at hy hself
        rcases mem_subs.1 hy with hy2 | ⟨a, ha, hy2⟩
        · exact absurd hy2 hself
        · exact hargs a (two_mem.1 ha) y hy2
      · rw [nrm1_else h7 h6] at hy hself
        rcases mem_subs.1 hy with hy2 | ⟨a, ha, hy2⟩
        · exact absurd hy2 hself
        · exact hargs a ha y hy2
end Go.Proofs.YtlpkcbkflfbclaaDoor.S
