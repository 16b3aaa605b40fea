/- What two agree on, as it is thought of: just who has what comes to the secret on one of both sides. Plain Lean: no walk in this text. -/
import Derived.Test.YtlpkcbkflfbclaaDoorTmSpec6
namespace Go.Proofs.YtlpkcbkflfbclaaDoor.S

def at_ (n : List UInt8) : Tm := .mk 1 n []
def wA : List UInt8 := [97]
def wF : List UInt8 := [102]
def wB : List UInt8 := [98]
def wP : List UInt8 := [112, 114, 101]
def wO : List UInt8 := [111, 110, 99, 101]
def wW : List UInt8 := [119, 111, 114, 100, 115]
def wAg : List UInt8 := [97, 103, 114, 101, 101]
def wNames : List (List UInt8) := [wA, wF, wB, wP, wO]
def ag (a b : Tm) : Tm := .mk 7 [] [a, b]
def secretT (a f agree pre once : Tm) : Tm := .mk 4 wAg [ag a pre, ag f agree, ag f pre, ag f once]
def wtKey : Tm := secretT (at_ wA) (at_ wF) (pub (at_ wB)) (pub (at_ wP)) (pub (at_ wO))
def wtOther : Tm := .mk 4 wAg [ag (at_ wP) (pub (at_ wA)), ag (at_ wB) (pub (at_ wF)), ag (at_ wP) (pub (at_ wF)), ag (at_ wO) (pub (at_ wF))]
def wtSeal : Tm := .mk 3 [] [wtKey, at_ wW]
/-- The key in its one form. -/
def wtN : Tm := .mk 4 wAg [.mk 6 [] [at_ wA, at_ wP], .mk 6 [] [at_ wB, at_ wF], .mk 6 [] [at_ wF, at_ wP], .mk 6 [] [at_ wF, at_ wO]]
theorem wt_norm : nrm wtKey = wtN ∧ nrm wtOther = wtN ∧ chk wtKey = 0 ∧ chk wtSeal = 0 ∧ shp wtKey = true ∧ shp wtOther = true ∧ npart wtSeal ≤ 20 ∧ chk (at_ wW) = 0 := by decide +kernel
theorem wt_pubs : ∀ n ∈ wNames, chk (pub (at_ n)) = 0 ∧ npart (pub (at_ n)) ≤ 2 ∧ chk (at_ n) = 0 ∧ npart (at_ n) ≤ 1 := by decide +kernel
/-- What comes of one of the five. -/
def wtOne (n : List UInt8) (h : Bool) : List Tm := pub (at_ n) :: if h then [at_ n] else []
def wtBase (h : List Bool) (i : Nat) : List Tm := wtSeal :: ((wNames.zip h).take i).flatMap fun p => wtOne p.1 p.2
theorem wtBase_next {h : List Bool} {i : Nat} {n : List UInt8} {b : Bool} (hn : wNames[i]? = some n) (hb : h[i]? = some b) : wtBase h (i + 1) = wtBase h i ++ wtOne n b := by
  unfold wtBase
  have hz : (wNames.zip h)[i]? = some (n, b) := by rw [List.getElem?_zip_eq_some]; exact ⟨hn, hb⟩
  rw [List.take_add_one, hz, List.flatMap_append, List.cons_append]
  simp
theorem wtBase_mem {h : List Bool} {i : Nat} {t : Tm} (ht : t ∈ wtBase h i) : t = wtSeal ∨ ∃ n ∈ wNames, ∃ j : Nat, wNames[j]? = some n ∧ (t = pub (at_ n) ∨ (t = at_ n ∧ h[j]? = some true)) := by
  unfold wtBase at ht
  rcases List.mem_cons.1 ht with rfl | ht
  · exact .inl rfl
  · obtain ⟨⟨n, b⟩, hp, ht⟩ := List.mem_flatMap.1 ht
    obtain ⟨j, hj⟩ := List.getElem?_of_mem (List.mem_of_mem_take hp)
    rw [List.getElem?_zip_eq_some] at hj
    refine .inr ⟨n, List.mem_of_getElem? hj.1, j, hj.1, ?_⟩
    unfold wtOne at ht
    rcases List.mem_cons.1 ht with rfl | ht
    · exact .inl rfl
    · cases b with
      | false => simp at ht
      | true => simp at ht; exact .inr ⟨ht, hj.2⟩
theorem wtBase_chk (h : List Bool) (i : Nat) : ∀ t ∈ wtBase h i, chk t = 0 := by
  intro t ht
  rcases wtBase_mem ht with rfl | ⟨n, hn, j, _, rfl | ⟨rfl, _⟩⟩
  · exact wt_norm.2.2.2.1
  · exact (wt_pubs n hn).1
  · exact (wt_pubs n hn).2.2.1
theorem wtOne_parts {n : List UInt8} (hn : n ∈ wNames) (b : Bool) : nparts (wtOne n b) ≤ 3 := by
  have := wt_pubs n hn
  unfold wtOne
  cases b
  · simp only [Bool.false_eq_true, if_false]; rw [nparts_cons, nparts_nil]; omega
  · simp only [if_true]; rw [nparts_cons, nparts_cons, nparts_nil]; omega
/-- Who has begun, by the five. -/
def begunB (h : List Bool) : Bool := (h.getD 0 false || h.getD 3 false) && (h.getD 1 false || h.getD 2 false) && (h.getD 1 false || h.getD 3 false) && (h.getD 1 false || h.getD 4 false)

section
variable {h : List Bool} {xs : List Tm}
/-- None of the six atoms stands in it. -/
def Free (x : Tm) : Prop := ∀ n ∈ wW :: wNames, at_ n ∉ subs x
theorem Free.sub {x y : Tm} (h : Free y) (hx : x ∈ subs y) : Free x := fun n hn h' => h n hn (subs_trans h' hx)
/-- What who overhears may know at most. -/
def Upp (h : List Bool) (x : Tm) : Prop := Free x ∨ (∃ n ∈ wNames, x = pub (at_ n)) ∨ (∃ (j : Nat) (n : List UInt8), wNames[j]? = some n ∧ h[j]? = some true ∧ x = at_ n) ∨ x = .mk 3 [] [wtN, at_ wW]
theorem upp_atom {j : Nat} {n : List UInt8} (hj : wNames[j]? = some n) (hm : Mk (Upp h) (at_ n)) : h.getD j false = true := by
  rcases Mk.atom_iff.1 hm with hf | ⟨m, _, e⟩ | ⟨i, m, hi, hh, e⟩ | e
  · exact absurd (subs_self _) (hf n (List.mem_cons_of_mem _ (List.mem_of_getElem? hj)))
  · cases e
  · injection e with _ e
    subst e
    have hi5 : i < 5 := (List.getElem?_eq_some_iff.1 hi).1
    have hj5 : j < 5 := (List.getElem?_eq_some_iff.1 hj).1
    have : i = j := (show ∀ i < 5, ∀ j < 5, wNames[i]? = wNames[j]? → i = j by decide) i hi5 j hj5 (hi.trans hj.symm)
    subst this
    rw [List.getD_eq_getElem?_getD, hh]; rfl
  · cases e
theorem upp_pair {i j : Nat} {n m : List UInt8} (hi : wNames[i]? = some n) (hj : wNames[j]? = some m) (hm : Mk (Upp h) (.mk 6 [] [at_ n, at_ m])) : (h.getD i false || h.getD j false) = true := by
  rw [Bool.or_eq_true]
  rcases Mk.six_iff.1 hm with hf | ⟨h1, _⟩ | ⟨h1, _⟩
  · rcases hf with hf | ⟨m, _, e⟩ | ⟨i, m, _, _, e⟩ | e
    · exact absurd (subs_arg (List.mem_cons_self ..) (subs_self _)) (hf n (List.mem_cons_of_mem _ (List.mem_of_getElem? hi)))
    · cases e
    · cases e
    · cases e
  · exact .inl (upp_atom hi h1)
  · exact .inr (upp_atom hj h1)
theorem upp_key (hm : Mk (Upp h) wtN) : begunB h = true := by
  rcases (Mk.comp_iff (by decide) (by decide)).1 hm with hf | hf
  · rcases hf with hf | ⟨m, _, e⟩ | ⟨i, m, _, _, e⟩ | e
    · exact absurd (by decide +kernel : at_ wA ∈ subs wtN) (hf wA (by decide))
    · cases e
    · cases e
    · cases e
  · unfold begunB
    rw [Bool.and_eq_true, Bool.and_eq_true, Bool.and_eq_true]
    refine ⟨⟨⟨upp_pair (i := 0) (j := 3) rfl rfl (hf _ (by simp [wtN])), ?_⟩, upp_pair (i := 1) (j := 3) rfl rfl (hf _ (by simp [wtN]))⟩, upp_pair (i := 1) (j := 4) rfl rfl (hf _ (by simp [wtN]))⟩
    rw [Bool.or_comm]; exact upp_pair (i := 2) (j := 1) rfl rfl (hf _ (by simp [wtN]))
theorem upp_words : ¬ Mk (Upp h) (at_ wW) := fun hm => by
  rcases Mk.atom_iff.1 hm with hf | ⟨m, _, e⟩ | ⟨i, m, hi, hh, e⟩ | e
  · exact absurd (subs_self _) (hf wW (List.mem_cons_self ..))
  · cases e
  · injection e with _ e
    subst e
    exact absurd (List.mem_of_getElem? hi) (by decide)
  · cases e
theorem upp_closed (hb : begunB h = false) : Closed (Upp h) := by
  have hno : ¬ Mk (Upp h) wtN := fun hm => by rw [upp_key hm] at hb; cases hb
  rintro t (hf | ⟨m, _, rfl⟩ | ⟨i, m, _, _, rfl⟩ | rfl)
  · exact ⟨fun n a b e => (by subst e; exact ⟨.inl (hf.sub (subs_arg (by simp) (subs_self _))), .inl (hf.sub (subs_arg (by simp) (subs_self _)))⟩), fun n a b e => (by subst e; exact .inl (hf.sub (subs_arg (by simp) (subs_self _)))), fun n a b e => (by subst e; exact .inl (.inl (hf.sub (subs_arg (by simp) (subs_self _)))))⟩
  · exact ⟨fun n a b e => (by cases e), fun n a b e => (by cases e), fun n a b e => (by cases e)⟩
  · exact ⟨fun n a b e => (by cases e), fun n a b e => (by cases e), fun n a b e => (by cases e)⟩
  · refine ⟨fun n a b e => (by cases e), fun n a b e => (by cases e), fun n a b e => ?_⟩
    injection e with _ _ e
    simp only [List.cons.injEq, and_true] at e
    obtain ⟨rfl, rfl⟩ := e
    exact .inr hno
theorem seal_nrm : nrm wtSeal = .mk 3 [] [wtN, at_ wW] := by rw [wtSeal, nrm_two (by decide) (by decide), wt_norm.1, show nrm (at_ wW) = at_ wW from nrm_atom]
theorem upp_of (hx : ∀ t ∈ xs, shp t = true ∧ Free t) : ∀ y, Bs (wtBase h 5 ++ xs) y → Upp h y := by
  rintro y ⟨t, ht, rfl⟩
  rcases List.mem_append.1 ht with ht | ht
  · rcases wtBase_mem ht with rfl | ⟨n, hn, j, hj, rfl | ⟨rfl, hb⟩⟩
    · exact .inr (.inr (.inr seal_nrm))
    · exact .inr (.inl ⟨n, hn, by rw [pub, nrm_pub, show nrm (at_ n) = at_ n from nrm_atom]⟩)
    · exact .inr (.inr (.inl ⟨j, n, hj, hb, nrm_atom⟩))
  · obtain ⟨hs, hf⟩ := hx t ht
    exact .inl fun n hn h' => hf n hn (atom_nrm hs h')
theorem wtBase_pub {n : List UInt8} {j : Nat} (hl : h.length = 5) (hj : wNames[j]? = some n) : pub (at_ n) ∈ wtBase h 5 ∧ (h.getD j false = true → at_ n ∈ wtBase h 5) := by
  have hj5 : j < 5 := (List.getElem?_eq_some_iff.1 hj).1
  have hz : (wNames.zip h)[j]? = some (n, h[j]) := by rw [List.getElem?_zip_eq_some]; exact ⟨hj, List.getElem?_eq_getElem (by omega)⟩
  have hm : (n, h[j]) ∈ (wNames.zip h).take 5 := by
    rw [List.take_of_length_le (by rw [List.length_zip]; have : wNames.length = 5 := rfl; omega)]
    exact List.mem_of_getElem? hz
  unfold wtBase
  refine ⟨List.mem_cons_of_mem _ (List.mem_flatMap.2 ⟨_, hm, by simp [wtOne]⟩), fun hb => List.mem_cons_of_mem _ (List.mem_flatMap.2 ⟨_, hm, ?_⟩)⟩
  rw [List.getD_eq_getElem?_getD, List.getElem?_eq_getElem (by omega)] at hb
  simp only [Option.getD_some] at hb
  simp [wtOne, hb]
theorem low_pair (hl : h.length = 5) {i j : Nat} {n m : List UInt8} (hi : wNames[i]? = some n) (hj : wNames[j]? = some m) (hb : (h.getD i false || h.getD j false) = true) : Der (Bs (wtBase h 5 ++ xs)) (.mk 6 [] [at_ n, at_ m]) := by
  have pk : ∀ {n : List UInt8} {j : Nat}, wNames[j]? = some n → Der (Bs (wtBase h 5 ++ xs)) (pub (at_ n)) := fun hj => .known ⟨_, List.mem_append_left _ (wtBase_pub hl hj).1, by rw [pub, nrm_pub, show nrm (at_ _) = at_ _ from nrm_atom]⟩
  have ok : ∀ {n : List UInt8} {j : Nat}, wNames[j]? = some n → h.getD j false = true → Der (Bs (wtBase h 5 ++ xs)) (at_ n) := fun hj hb => .known ⟨_, List.mem_append_left _ ((wtBase_pub hl hj).2 hb), nrm_atom.symm⟩
  rw [Bool.or_eq_true] at hb
  rcases hb with hb | hb
  · exact .sh1 (ok hi hb) (pk hj)
  · exact .sh2 (ok hj hb) (pk hi)
theorem low_key (hl : h.length = 5) (hb : begunB h = true) : Der (Bs (wtBase h 5 ++ xs)) wtN := by
  unfold begunB at hb
  rw [Bool.and_eq_true, Bool.and_eq_true, Bool.and_eq_true] at hb
  obtain ⟨⟨⟨h1, h2⟩, h3⟩, h4⟩ := hb
  refine .comp (by decide) (by decide) fun x hx => ?_
  simp only [List.mem_cons, List.not_mem_nil, or_false] at hx
  rcases hx with rfl | rfl | rfl | rfl
  · exact low_pair hl (i := 0) (j := 3) rfl rfl h1
  · exact low_pair hl (i := 2) (j := 1) rfl rfl (by rw [Bool.or_comm]; exact h2)
  · exact low_pair hl (i := 1) (j := 3) rfl rfl h3
  · exact low_pair hl (i := 1) (j := 4) rfl rfl h4
/-- WHO CAN READ WHAT TWO AGREE ON. -/
theorem wt_law (hl : h.length = 5) (hx : ∀ t ∈ xs, shp t = true ∧ Free t) : (Ans (wtBase h 5 ++ xs) (at_ wW) ↔ begunB h = true) ∧ (Ans (wtBase h 5 ++ xs) wtKey ↔ begunB h = true) := by
  have up : begunB h = false → ∀ y, Der (Bs (wtBase h 5 ++ xs)) y → Mk (Upp h) y := fun hb y hy => (upp_closed hb).der (hy.mono (upp_of hx))
  refine ⟨⟨fun ha => ?_, fun hb => ⟨wt_norm.2.2.2.2.2.2.2, ?_⟩⟩, ⟨fun ha => ?_, fun hb => ⟨wt_norm.2.2.1, by rw [wt_norm.1]; exact low_key hl hb⟩⟩⟩
  · have h2 := ha.2
    rw [show nrm (at_ wW) = at_ wW from nrm_atom] at h2
    cases hb : begunB h with
    | true => rfl
    | false => exact absurd (up hb _ h2) upp_words
  · rw [show nrm (at_ wW) = at_ wW from nrm_atom]
    exact .opn (n := []) (a := wtN) (.known ⟨wtSeal, List.mem_append_left _ (by simp [wtBase]), seal_nrm.symm⟩) (low_key hl hb)
  · have h2 := ha.2
    rw [wt_norm.1] at h2
    cases hb : begunB h with
    | true => rfl
    | false => exact absurd (upp_key (up hb _ h2)) (by rw [hb]; decide)
end
end Go.Proofs.YtlpkcbkflfbclaaDoor.S
