/- One forms of one forms; what the laws of knowing say of what can be had. Plain Lean: no walk in this text. -/
import Derived.Test.YtlpkcbkflfbclaaDoorTmSpec5
import Derived.Test.YtlpkcbkflfbclaaDoorT6
namespace Go.Proofs.YtlpkcbkflfbclaaDoor.S

theorem tsize_two (l : List Tm) : tsize (two l) = tsize l := by
  unfold two; split
  · split
    · simp only [tsize]; omega
    · rfl
  · rfl
theorem tdeep_two (l : List Tm) : tdeep (two l) = tdeep l := by
  unfold two; split
  · split
    · simp only [tdeep]; omega
    · rfl
  · rfl
theorem two_two {a b : Tm} : two (two [a, b]) = two [a, b] := by
  by_cases h : cmpT b a < 0
  · have e : two [a, b] = [b, a] := by simp [two, h]
    rw [e]; simp [two, cmpT_asymm h]
  · have e : two [a, b] = [a, b] := by simp [two, h]
    rw [e, e]
theorem two_cases (a b : Tm) : two [a, b] = [a, b] ∨ two [a, b] = [b, a] := by
  by_cases h : cmpT b a < 0
  · exact .inr (by simp [two, h])
  · exact .inl (by simp [two, h])
theorem tsize_nrmL {ts : List Tm} (h : ∀ t ∈ ts, (nrm t).size ≤ t.size ∧ (nrm t).deep ≤ t.deep) : tsize (nrmL ts) ≤ tsize ts ∧ tdeep (nrmL ts) ≤ tdeep ts := by
  induction ts with
  | nil => exact ⟨Nat.le_refl _, Nat.le_refl _⟩
  | cons t ts ih =>
    obtain ⟨h1, h2⟩ := h t (by simp)
    obtain ⟨h3, h4⟩ := ih fun u hu => h u (by simp [hu])
    rw [nrmL, tsize, tsize, tdeep, tdeep]; omega
theorem nrm_small (t : Tm) (hs : shp t = true) : (nrm t).size ≤ t.size ∧ (nrm t).deep ≤ t.deep := by
  induction t using Tm.ind with
  | h k n ts ih =>
    have hl := tsize_nrmL fun t ht => ih t ht ((shp_mk.1 hs).2 t ht)
    rcases nrm_cases hs with ⟨rfl, rfl, p, q, rfl, e⟩ | ⟨rfl, rfl, p, q, z, rfl, hq, e⟩ | ⟨rfl, rfl, p, q, kq, nq, aq, rfl, hq, hkq, e⟩ | ⟨h6, h7, e⟩
    · rw [e, Tm.size, Tm.size, Tm.deep, Tm.deep, tsize_two, tdeep_two]
      have e2 : nrmL [p, q] = [nrm p, nrm q] := rfl
      rw [e2] at hl; omega
    · rw [e, Tm.size, Tm.size, Tm.deep, Tm.deep, tsize_two, tdeep_two]
      have e2 : nrmL [p, q] = [nrm p, nrm q] := rfl
      rw [e2, hq] at hl
      simp only [tsize, tdeep, Tm.size, Tm.deep] at hl ⊢
      omega
    · rw [e, Tm.size, Tm.size, Tm.deep, Tm.deep]; omega
    · rw [e, Tm.size, Tm.size, Tm.deep, Tm.deep]; omega
theorem chk_nrm {t : Tm} (h : chk t = 0) : chk (nrm t) = 0 := by
  obtain ⟨h1, h2, h3⟩ := chk_iff.1 h
  obtain ⟨a, b⟩ := nrm_small t h3
  exact chk_iff.2 ⟨by omega, by omega, shp_nrm t h3⟩
theorem nrm_nrm (t : Tm) (hs : shp t = true) : nrm (nrm t) = nrm t := by
  induction t using Tm.ind with
  | h k n ts ih =>
    have ih' := fun t ht => ih t ht ((shp_mk.1 hs).2 t ht)
    have two6 : ∀ a b : Tm, nrm a = a → nrm b = b → nrm (.mk 6 [] (two [a, b])) = .mk 6 [] (two [a, b]) := by
      intro a b ha hb
      have e : nrmL (two [a, b]) = two [a, b] := by
        rw [nrmL_map]
        rcases two_cases a b with h | h <;> (rw [h]; simp [ha, hb])
      rw [nrm, nrm1_six, e, two_two]
    rcases nrm_cases hs with ⟨rfl, rfl, p, q, rfl, e⟩ | ⟨rfl, rfl, p, q, z, rfl, hq, e⟩ | ⟨rfl, rfl, p, q, kq, nq, aq, rfl, hq, hkq, e⟩ | ⟨h6, h7, e⟩
    · rw [e]; exact two6 _ _ (ih' p (by simp)) (ih' q (by simp))
    · rw [e]
      have hz := ih' q (by simp)
      rw [hq, nrm_pub] at hz
      injection hz with _ _ hz
      exact two6 _ _ (ih' p (by simp)) (by simpa using hz)
    · rw [e]
      have e2 : nrmL [p, q] = [nrm p, nrm q] := rfl
      have e3 : nrmL [nrm p, nrm q] = [nrm p, nrm q] := by
        show [nrm (nrm p), nrm (nrm q)] = _
        rw [ih' p (by simp), ih' q (by simp)]
      rw [e2, nrm, e3, hq, nrm1_seven (b := .mk kq nq aq) hkq]
    · rw [e, nrm, nrm1_else h7 h6]
      congr 1
      rw [nrmL_map, nrmL_map, List.map_map]
      exact List.map_congr_left fun t ht => ih' t ht

/-- With one more that opens nothing new, what is had is put together. -/
theorem Kn.with {ts l : List Tm} {s x : Tm} (hk : Kn ts l) (hc : Closed (fun x => x ∈ l ∨ x = nrm s)) (h : Der (Bs (ts ++ [s])) x) : Mk (fun x => x ∈ l ∨ x = nrm s) x := by
  refine hc.der (h.mono ?_)
  rintro y ⟨t, ht, rfl⟩
  rcases List.mem_append.1 ht with ht | ht
  · exact .inl (hk.sup _ ⟨t, ht, rfl⟩)
  · rw [List.mem_singleton] at ht; subst ht; exact .inr rfl
theorem chk_of {ts us : List Tm} (h : ∀ t ∈ ts, chk t = 0) (h2 : ∀ t ∈ us, chk t = 0) : ∀ t ∈ ts ++ us, chk t = 0 := fun t ht => (List.mem_append.1 ht).elim (h t) (h2 t)

/-! ### An atom that stands nowhere -/
def frN : List UInt8 := [102, 114, 101, 115, 104, 111, 110, 101]
def fr : Tm := .mk 1 frN []
section
variable {ts l : List Tm}
theorem fr_not (hk : Kn ts l) (hc : ∀ t ∈ ts, chk t = 0) (hf : ∀ t ∈ ts, fr ∉ subs t) : ¬ Ans ts fr := fun h => by
  have h2 := (hk.mks _).2 h.2
  rw [show nrm fr = fr from nrm_atom] at h2
  exact fresh_not l hk (fun t ht => chk_shp (hc t ht)) hf _ (Mk.atom_iff.1 h2) (subs_self _)
theorem pub_not (hk : Kn ts l) (hc : ∀ t ∈ ts, chk t = 0) (hf : ∀ t ∈ ts, fr ∉ subs t) : ¬ Ans ts (.mk 5 [] [fr]) := fun h => by
  have h2 := (hk.mks _).2 h.2
  rw [nrm_pub, show nrm fr = fr from nrm_atom] at h2
  have hn := fresh_not l hk (fun t ht => chk_shp (hc t ht)) hf
  rcases (Mk.comp_iff (by decide) (by decide)).1 h2 with h3 | h3
  · exact hn _ h3 (subs_arg (List.mem_cons_self ..) (subs_self _))
  · exact hn _ (Mk.atom_iff.1 (h3 fr (List.mem_cons_self ..))) (subs_self _)
theorem fr_chk : chk fr = 0 ∧ chk (.mk 5 [] [fr]) = 0 ∧ npart (.mk 5 [] [fr]) ≤ 2 ∧ npart fr = 1 := by decide +kernel
theorem fr_still (hk : Kn ts l) (hc : ∀ t ∈ ts, chk t = 0) (hf : ∀ t ∈ ts, fr ∉ subs t) : ¬ Ans (ts ++ [.mk 5 [] [fr]]) fr := fun h => by
  have hn := fresh_not l hk (fun t ht => chk_shp (hc t ht)) hf
  have e : nrm (.mk 5 [] [fr]) = .mk 5 [] [fr] := by rw [nrm_pub, show nrm fr = fr from nrm_atom]
  have hcl : Closed (fun x => x ∈ l ∨ x = nrm (.mk 5 [] [fr])) := by
    rw [e]
    exact hk.cl.with (a := fr) rfl (subs_arg (List.mem_cons_self ..) (subs_self _)) hn ⟨fun _ _ _ h => (by cases h), fun _ _ _ h => (by cases h), fun _ _ _ h => (by cases h)⟩
  have h2 := hk.with hcl h.2
  rw [show nrm fr = fr from nrm_atom] at h2
  rcases Mk.atom_iff.1 h2 with h3 | h3
  · exact hn _ h3 (subs_self _)
  · rw [e] at h3; cases h3

/-! ### What lies under a key -/
def seN : List UInt8 := [116, 104, 101, 115, 101, 99, 114, 101, 116]
def se : Tm := .mk 1 seN []
theorem se_chk : chk se = 0 ∧ npart se = 1 := by decide +kernel
theorem sealed_opens {key : Tm} (hk : Kn ts l) (hc : ∀ t ∈ ts, chk t = 0) (hck : chk key = 0) (hf : ∀ t ∈ ts, se ∉ subs t) (hfk : se ∉ subs key) : Ans (ts ++ [.mk 3 [] [key, se]]) se ↔ Ans ts key := by
  have hn := fresh_not l hk (fun t ht => chk_shp (hc t ht)) hf
  have es : nrm se = se := nrm_atom
  have e : nrm (.mk 3 [] [key, se]) = .mk 3 [] [nrm key, se] := by rw [nrm_two (by decide) (by decide), es]
  have hkn : se ∉ subs (nrm key) := fun h => hfk (atom_nrm (chk_shp hck) h)
  constructor
  · intro h
    refine ⟨hck, Classical.byContradiction fun hno => ?_⟩
    have hcl : Closed (fun x => x ∈ l ∨ x = nrm (.mk 3 [] [key, se])) := by
      rw [e]
      refine hk.cl.with (a := se) rfl (subs_arg (by simp) (subs_self _)) hn ⟨fun _ _ _ h => (by cases h), fun _ _ _ h => (by cases h), fun n a b h => ?_⟩
      injection h with _ _ h
      simp only [List.cons.injEq, and_true] at h
      obtain ⟨rfl, rfl⟩ := h
      exact .inr fun hm => hno ((hk.mks _).1 (hm.without (a := se) rfl (subs_arg (by simp) (subs_self _)) hkn))
    have h2 := hk.with hcl h.2
    rw [es] at h2
    rcases Mk.atom_iff.1 h2 with h3 | h3
    · exact hn _ h3 (subs_self _)
    · rw [e] at h3; cases h3
  · intro h
    refine ⟨se_chk.1, ?_⟩
    rw [es]
    exact .opn (n := []) (a := nrm key) (.known ⟨_, List.mem_append_right _ (List.mem_singleton.2 rfl), e.symm⟩) (h.2.mono (Bs.mono (by simp +contextual)))
theorem sealed_after {key : Tm} : Ans (ts ++ [.mk 3 [] [key, se]] ++ [key]) se := by
  have es : nrm se = se := nrm_atom
  have e : nrm (.mk 3 [] [key, se]) = .mk 3 [] [nrm key, se] := by rw [nrm_two (by decide) (by decide), es]
  refine ⟨se_chk.1, ?_⟩
  rw [es]
  exact .opn (n := []) (a := nrm key) (.known ⟨_, by simp, e.symm⟩) (.known ⟨key, by simp, rfl⟩)

/-! ### Pairs, and what is signed -/
theorem pair_same {a b p : Tm} : Ans (ts ++ [.mk 2 [] [a, b]]) p ↔ Ans (ts ++ [a, b]) p := by
  have e : nrm (.mk 2 [] [a, b]) = .mk 2 [] [nrm a, nrm b] := nrm_two (by decide) (by decide)
  unfold Ans
  refine and_congr_right fun _ => ⟨fun h => h.cut ?_, fun h => h.cut ?_⟩
  · rintro y ⟨t, ht, rfl⟩
    rcases List.mem_append.1 ht with ht | ht
    · exact .known ⟨t, List.mem_append_left _ ht, rfl⟩
    · rw [List.mem_singleton] at ht; subst ht
      rw [e]
      refine .comp (by decide) (by decide) fun x hx => ?_
      simp only [List.mem_cons, List.not_mem_nil, or_false] at hx
      rcases hx with rfl | rfl
      · exact .known ⟨a, by simp, rfl⟩
      · exact .known ⟨b, by simp, rfl⟩
  · rintro y ⟨t, ht, rfl⟩
    have hp : Der (Bs (ts ++ [.mk 2 [] [a, b]])) (.mk 2 [] [nrm a, nrm b]) := .known ⟨_, by simp, e.symm⟩
    rcases List.mem_append.1 ht with ht | ht
    · exact .known ⟨t, List.mem_append_left _ ht, rfl⟩
    · simp only [List.mem_cons, List.not_mem_nil, or_false] at ht
      rcases ht with rfl | rfl
      · exact .fst hp
      · exact .snd hp
theorem signed_had {a b : Tm} (hc : chk b = 0) : Ans (ts ++ [.mk 8 [] [a, b]]) b := ⟨hc, .sig (n := []) (a := nrm a) (.known ⟨_, by simp, (nrm_two (by decide) (by decide)).symm⟩)⟩
theorem pair_made {a b : Tm} (ha : a ∈ ts) (hb : b ∈ ts) (hc : chk (.mk 2 [] [a, b]) = 0) : Ans ts (.mk 2 [] [a, b]) := by
  refine ⟨hc, ?_⟩
  rw [nrm_two (by decide) (by decide)]
  refine .comp (by decide) (by decide) fun x hx => ?_
  simp only [List.mem_cons, List.not_mem_nil, or_false] at hx
  rcases hx with rfl | rfl
  · exact .known ⟨a, ha, rfl⟩
  · exact .known ⟨b, hb, rfl⟩
/-- What is known can be made. -/
theorem Kn.self (hk : Kn ts l) (hc : ∀ t ∈ ts, chk t = 0) {x : Tm} (hx : x ∈ l) : Ans ts x := by
  obtain ⟨t, ht, hs⟩ := hk.sub x hx
  obtain ⟨z, hz, rfl⟩ := subs_nrm t (chk_shp (hc t ht)) x hs
  have hcz := chk_sub (hc t ht) hz
  refine ⟨chk_nrm hcz, ?_⟩
  rw [nrm_nrm z (chk_shp hcz)]
  exact hk.der _ hx
theorem Ans.perm {us : List Tm} (h : ∀ x, x ∈ ts ↔ x ∈ us) (t : Tm) : Ans ts t ↔ Ans us t := ⟨Ans.mono fun x hx => (h x).1 hx, Ans.mono fun x hx => (h x).2 hx⟩
end
end Go.Proofs.YtlpkcbkflfbclaaDoor.S
