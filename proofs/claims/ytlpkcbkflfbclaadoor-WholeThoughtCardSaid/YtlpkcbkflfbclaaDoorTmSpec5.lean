/- What is known, in one word: what can be had of the one forms of what came. Plain Lean: no program in this text. -/
import Derived.Test.YtlpkcbkflfbclaaDoorTmSpec4
namespace Go.Proofs.YtlpkcbkflfbclaaDoor.S

/-! ### Counting -/
theorem nodup_le : ∀ {m big : List Tm}, m.Nodup → (∀ x ∈ m, x ∈ big) → m.length ≤ big.length
  | [], _, _, _ => Nat.zero_le _
  | a :: m, big, h, hs => by
    have ha : a ∈ big := hs a (by simp)
    obtain ⟨h1, h2⟩ := List.nodup_cons.1 h
    have := nodup_le (m := m) (big := big.erase a) h2 fun x hx => (List.mem_erase_of_ne (fun e => h1 (by rw [← e]; exact hx))).2 (hs x (by simp [hx]))
    have hl := List.length_erase_of_mem ha
    have hp := List.length_pos_of_mem ha
    rw [List.length_cons]; omega
/-- How many parts a term has. -/
def npart (t : Tm) : Nat := (prt t []).length
theorem npart_of {t : Tm} {us : List Tm} (h1 : us.Nodup) (h2 : ∀ y, y ∈ us ↔ y ∈ subs t) : us.length = npart t := by
  have a := nodup_le h1 (fun x hx => (prt_mem t x).2 ((h2 x).1 hx))
  have b := nodup_le (prt_nodup t) (fun x hx => (h2 x).2 ((prt_mem t x).1 hx))
  unfold npart; omega
theorem subs_len (t : Tm) : (subs t).length = t.size := by
  induction t using Tm.ind with
  | h k n as ih =>
    rw [subs, Tm.size, List.length_cons]
    congr 1
    induction as with
    | nil => rfl
    | cons a as iha => rw [subsL, tsize, List.length_append, ih a (by simp), iha fun b hb => ih b (by simp [hb])]
theorem npart_le (t : Tm) : npart t ≤ t.size := by
  rw [← subs_len]; exact nodup_le (prt_nodup t) fun x hx => (prt_mem t x).1 hx
theorem npart_pos (t : Tm) : 0 < npart t := List.length_pos_of_mem ((prt_mem t t).2 (subs_self t))
def nparts (ts : List Tm) : Nat := (ts.map npart).sum
theorem nparts_app (a b : List Tm) : nparts (a ++ b) = nparts a + nparts b := by simp [nparts]
theorem nparts_cons (a : Tm) (b : List Tm) : nparts (a :: b) = npart a + nparts b := by simp [nparts]
theorem nparts_nil : nparts [] = 0 := rfl
theorem nparts_len (ts : List Tm) : ts.length ≤ nparts ts := by
  induction ts with
  | nil => simp
  | cons a ts ih => have := npart_pos a; rw [nparts_cons, List.length_cons]; omega
theorem nparts_comp {k : Int} {n : List UInt8} {as : List Tm} : npart (.mk k n as) ≤ nparts as + 1 := by
  have : npart (.mk k n as) ≤ (Tm.mk k n as :: as.flatMap fun a => prt a []).length := nodup_le (prt_nodup _) fun x hx => by
    rcases mem_subs.1 ((prt_mem _ x).1 hx) with rfl | ⟨a, ha, hx⟩
    · simp
    · exact List.mem_cons_of_mem _ (List.mem_flatMap.2 ⟨a, ha, (prt_mem a x).2 hx⟩)
  rw [List.length_cons, List.length_flatMap] at this
  exact this

/-! ### What is known -/
/-- The one forms of what came. -/
def Bs (ts : List Tm) (x : Tm) : Prop := ∃ t ∈ ts, x = nrm t
theorem Bs.mono {ts us : List Tm} (h : ∀ t ∈ ts, t ∈ us) : ∀ x, Bs ts x → Bs us x := fun x ⟨t, ht, e⟩ => ⟨t, h t ht, e⟩
/-- The set l is what is known of ts. -/
structure Kn (ts l : List Tm) : Prop where
  mks : ∀ x, Mk (· ∈ l) x ↔ Der (Bs ts) x
  sub : ∀ x ∈ l, ∃ t ∈ ts, x ∈ subs (nrm t)
  cl : Closed (· ∈ l)
  sup : ∀ x, Bs ts x → x ∈ l
theorem Kn.nil : Kn [] [] := by
  have hc : Closed (· ∈ ([] : List Tm)) := fun t h => by cases h
  refine ⟨fun x => ⟨fun h => h.der.mono (fun y h => (by cases h)), fun h => hc.der (h.mono fun y h => ?_)⟩, fun x h => (by cases h), hc, fun x h => (by obtain ⟨t, h, _⟩ := h; cases h)⟩
  obtain ⟨t, h, _⟩ := h
  cases h
theorem Kn.der {ts l : List Tm} (h : Kn ts l) : ∀ x ∈ l, Der (Bs ts) x := fun x hx => (h.mks x).1 (.known hx)
theorem Kn.next {ts l us l' : List Tm} {e : Int} (h : Kn ts l) (hl : LearnR l us e l') (he : e = 0) : Kn (ts ++ us) l' := by
  cases hl with
  | bad _ _ h0 => exact absurd he h0
  | full => cases he
  | ok h1 h2 h3 h4 h5 h6 h7 h8 =>
    refine ⟨fun x => ⟨fun hx => hx.der.cut fun y hy => (h4 y hy).cut fun z hz => ?_, fun hx => h6.der (hx.cut ?_)⟩, fun x hx => ?_, h6, fun x hx => ?_⟩
    · rcases hz with hz | hz
      · exact (h.der z hz).mono (Bs.mono (by simp +contextual))
      · exact .known (Bs.mono (by simp +contextual) z hz)
    · rintro y ⟨t, ht, rfl⟩
      rcases List.mem_append.1 ht with ht | ht
      · exact (((h.mks _).2 (.known ⟨t, ht, rfl⟩)).mono fun z hz => h3 z (.inl hz)).der
      · exact .known (h3 _ (.inr ⟨t, ht, rfl⟩))
    · obtain ⟨y, hy, hx⟩ := h5 x hx
      rcases hy with hy | ⟨t, ht, rfl⟩
      · obtain ⟨t, ht, hy⟩ := h.sub y hy
        exact ⟨t, List.mem_append_left _ ht, subs_trans hx hy⟩
      · exact ⟨t, List.mem_append_right _ ht, hx⟩
    · obtain ⟨t, ht, rfl⟩ := hx
      rcases List.mem_append.1 ht with ht | ht
      · exact h3 _ (.inl (h.sup _ ⟨t, ht, rfl⟩))
      · exact h3 _ (.inr ⟨t, ht, rfl⟩)
/-- Nothing is refused where all are terms, and few. -/
theorem Kn.zero {ts l us l' : List Tm} {e : Int} (h : Kn ts l) (hl : LearnR l us e l') (hc : ∀ t ∈ ts ++ us, chk t = 0) (hn : nparts (ts ++ us) ≤ 4000) : e = 0 := by
  cases hl with
  | ok => rfl
  | bad h1 _ h0 => exact absurd (hc _ (List.mem_append_right _ (List.mem_of_getElem? h1))) h0
  | full h1 h2 h3 h4 =>
    exfalso
    have := nodup_le (big := ((ts ++ us).flatMap fun a => prt a []).map nrm) h2 fun x hx => by
      obtain ⟨y, hy, hx⟩ := h4 x hx
      obtain ⟨t, ht, hx⟩ : ∃ t ∈ ts ++ us, x ∈ subs (nrm t) := by
        rcases hy with hy | ⟨t, ht, rfl⟩
        · obtain ⟨t, ht, hy⟩ := h.sub y hy
          exact ⟨t, List.mem_append_left _ ht, subs_trans hx hy⟩
        · exact ⟨t, List.mem_append_right _ ht, hx⟩
      obtain ⟨z, hz, rfl⟩ := subs_nrm t (chk_shp (hc t ht)) x hx
      exact List.mem_map_of_mem (List.mem_flatMap.2 ⟨t, ht, (prt_mem t z).2 hz⟩)
    rw [List.length_map, List.length_flatMap] at this
    have e : (List.map (fun a => (prt a []).length) (ts ++ us)).sum = nparts (ts ++ us) := rfl
    omega
theorem Kn.learn {ts l us l' : List Tm} {e : Int} (h : Kn ts l) (hl : LearnR l us e l') (hc : ∀ t ∈ ts ++ us, chk t = 0) (hn : nparts (ts ++ us) ≤ 4000) : e = 0 ∧ Kn (ts ++ us) l' := by
  have := h.zero hl hc hn
  exact ⟨this, h.next hl this⟩
theorem Kn.new {us l' : List Tm} {e : Int} (hl : LearnR [] us e l') (hc : ∀ t ∈ us, chk t = 0) (hn : nparts us ≤ 4000) : e = 0 ∧ Kn us l' := Kn.nil.learn hl hc hn
/-- Can it be made of what came? -/
def Ans (ts : List Tm) (t : Tm) : Prop := chk t = 0 ∧ Der (Bs ts) (nrm t)
theorem Kn.ans {ts l : List Tm} (h : Kn ts l) (t : Tm) : (chk t = 0 ∧ Mk (· ∈ l) (nrm t)) ↔ Ans ts t := by unfold Ans; rw [h.mks]
theorem Ans.mono {ts us : List Tm} (h : ∀ t ∈ ts, t ∈ us) {t : Tm} (ha : Ans ts t) : Ans us t := ⟨ha.1, ha.2.mono (Bs.mono h)⟩
theorem Ans.known {ts : List Tm} {t : Tm} (h : t ∈ ts) (hc : chk t = 0) : Ans ts t := ⟨hc, .known ⟨t, h, rfl⟩⟩

/-! ### One forms -/
theorem nrm_atom {n : List UInt8} : nrm (.mk 1 n []) = .mk 1 n [] := by rw [nrm, nrm1_else (by decide) (by decide)]; rfl
theorem nrm_two {k : Int} {n : List UInt8} {a b : Tm} (h7 : k ≠ 7) (h6 : k ≠ 6) : nrm (.mk k n [a, b]) = .mk k n [nrm a, nrm b] := by rw [nrm, nrm1_else h7 h6]; rfl
theorem nrm_pub {n : List UInt8} {a : Tm} : nrm (.mk 5 n [a]) = .mk 5 n [nrm a] := by rw [nrm, nrm1_else (by decide) (by decide)]; rfl
theorem nrm1_kind {k : Int} {n : List UInt8} {l : List Tm} : nrm1 k n l = .mk k n l ∨ (nrm1 k n l).kind = 6 := by
  unfold nrm1
  split
  · split
    · exact .inr rfl
    · split
      · exact .inr rfl
      · exact .inl rfl
  · split
    · rename_i h6; exact .inr rfl
    · exact .inl rfl
theorem nrm_is_atom {z : Tm} {n : List UInt8} (h : nrm z = .mk 1 n []) : z = .mk 1 n [] := by
  obtain ⟨k, m, as⟩ := z
  rw [nrm] at h
  rcases nrm1_kind (k := k) (n := m) (l := nrmL as) with h1 | h1
  · rw [h1] at h
    injection h with h1 h2 h3
    subst h1; subst h2
    rw [nrmL_map, List.map_eq_nil_iff] at h3
    rw [h3]
  · rw [h] at h1; cases h1
theorem atom_nrm {t : Tm} {n : List UInt8} (hs : shp t = true) (h : Tm.mk 1 n [] ∈ subs (nrm t)) : Tm.mk 1 n [] ∈ subs t := by
  obtain ⟨z, hz, e⟩ := subs_nrm t hs _ h
  rw [nrm_is_atom e.symm] at hz
  exact hz
theorem deep_sub {x t : Tm} (h : x ∈ subs t) : x.deep ≤ t.deep := by
  induction t using Tm.ind with
  | h k n as ih =>
    rcases mem_subs.1 h with rfl | ⟨a, ha, h⟩
    · exact Nat.le_refl _
    · have h1 := ih a ha h
      have h2 := tdeep_mem ha
      rw [Tm.deep]; omega
theorem chk_sub {x t : Tm} (hc : chk t = 0) (h : x ∈ subs t) : chk x = 0 := by
  obtain ⟨h1, h2, h3⟩ := chk_iff.1 hc
  have a := subs_size h
  have b := deep_sub h
  exact chk_iff.2 ⟨by omega, by omega, shp_sub h3 h⟩

/-! ### What stands nowhere helps nobody -/
section
variable {K : Tm → Prop} {s a : Tm} {n : List UInt8}
theorem Mk.without (ha : a = .mk 1 n []) (hs : a ∈ subs s) {y : Tm} (h : Mk (fun x => K x ∨ x = s) y) : a ∉ subs y → Mk K y := by
  induction h with
  | known h =>
    intro hn
    rcases h with h | rfl
    · exact .known h
    · exact absurd hs hn
  | comp h1 h2 _ ih => intro hn; exact .comp h1 h2 fun b hb => ih b hb fun h => hn (subs_arg hb h)
  | sh1 _ _ i1 i2 =>
    intro hn
    refine .sh1 (i1 fun h => hn (subs_arg (by simp) h)) (i2 fun h => ?_)
    rcases mem_subs.1 h with h | ⟨c, hb, h⟩
    · rw [ha] at h; injection h with h; cases h
    · rw [List.mem_singleton.1 hb] at h; exact hn (subs_arg (List.mem_cons_of_mem _ (List.mem_cons_self ..)) h)
  | sh2 _ _ i1 i2 =>
    intro hn
    refine .sh2 (i1 fun h => hn (subs_arg (by simp) h)) (i2 fun h => ?_)
    rcases mem_subs.1 h with h | ⟨c, hb, h⟩
    · rw [ha] at h; injection h with h; cases h
    · rw [List.mem_singleton.1 hb] at h; exact hn (subs_arg (List.mem_cons_self ..) h)
theorem Closed.with (hc : Closed K) (ha : a = .mk 1 n []) (hs : a ∈ subs s) (hK : ∀ x, K x → a ∉ subs x) (h0 : ClosedAt (fun x => K x ∨ x = s) s) : Closed (fun x => K x ∨ x = s) := by
  rintro t (ht | rfl)
  · obtain ⟨h1, h2, h3⟩ := hc t ht
    refine ⟨fun n x y e => ⟨.inl (h1 n x y e).1, .inl (h1 n x y e).2⟩, fun n x y e => .inl (h2 n x y e), fun n x y e => ?_⟩
    rcases h3 n x y e with h | h
    · exact .inl (.inl h)
    · refine .inr fun hm => h (hm.without ha hs fun hx => hK t ht (by subst e; exact subs_arg (by simp) hx))
  · exact h0
end
/-- A fresh atom is had of nothing in which it doesn't stand. -/
theorem fresh_not {ts : List Tm} {n : List UInt8} (l : List Tm) (hk : Kn ts l) (hs : ∀ t ∈ ts, shp t = true) (hf : ∀ t ∈ ts, Tm.mk 1 n [] ∉ subs t) : ∀ x ∈ l, Tm.mk 1 n [] ∉ subs x := by
  intro x hx h
  obtain ⟨t, ht, hx⟩ := hk.sub x hx
  exact hf t ht (atom_nrm (hs t ht) (subs_trans h hx))

/-! ### The first example -/
def opK : Tm := .mk 1 [107] []
def opA : Tm := .mk 1 [97] []
def opB : Tm := .mk 1 [98] []
def opL : Tm := .mk 1 [108] []
def opTs : List Tm := [opK, .mk 3 [] [opK, opA], .mk 3 [] [opL, opB]]
def opKs : List Tm := [opK, .mk 3 [] [opK, opA], .mk 3 [] [opL, opB], opA]
theorem op_nrm : ∀ t ∈ opTs, nrm t = t := by decide +kernel
theorem op_chk : ∀ t ∈ opTs, chk t = 0 := by decide +kernel
theorem op_few : nparts opTs ≤ 1000 := by decide +kernel
theorem op_bs {x : Tm} : Bs opTs x ↔ x ∈ opTs := ⟨fun ⟨t, ht, e⟩ => by rw [e, op_nrm t ht]; exact ht, fun h => ⟨x, h, (op_nrm x h).symm⟩⟩
theorem op_noL : ¬ Mk (· ∈ opKs) opL := fun h => absurd (Mk.atom_iff.1 h) (by decide +kernel)
theorem op_noB : ¬ Mk (· ∈ opKs) opB := fun h => absurd (Mk.atom_iff.1 h) (by decide +kernel)
theorem op_closed : Closed (· ∈ opKs) := by
  intro t ht
  have h : t = opK ∨ t = .mk 3 [] [opK, opA] ∨ t = .mk 3 [] [opL, opB] ∨ t = opA := by simpa [opKs] using ht
  refine ⟨fun n a b e => ?_, fun n a b e => ?_, fun n a b e => ?_⟩
  · subst e; rcases h with h | h | h | h <;> (injection h with h; exact absurd h (by decide))
  · subst e; rcases h with h | h | h | h <;> (injection h with h; exact absurd h (by decide))
  · subst e
    rcases h with h | h | h | h
    · injection h with h; exact absurd h (by decide)
    · injection h with _ _ h
      simp only [List.cons.injEq, and_true] at h
      obtain ⟨rfl, rfl⟩ := h
      exact .inl (by decide +kernel)
    · injection h with _ _ h
      simp only [List.cons.injEq, and_true] at h
      obtain ⟨rfl, rfl⟩ := h
      exact .inr op_noL
    · injection h with h; exact absurd h (by decide)
theorem op_der {x : Tm} : Der (Bs opTs) x ↔ Mk (· ∈ opKs) x := by
  refine ⟨fun h => op_closed.der (h.mono fun y hy => ?_), fun h => h.der.cut fun y hy => ?_⟩
  · have := op_bs.1 hy
    simp only [opTs, List.mem_cons, List.not_mem_nil, or_false] at this
    simp only [opKs, List.mem_cons, List.not_mem_nil, or_false]
    rcases this with h | h | h
    · exact .inl h
    · exact .inr (.inl h)
    · exact .inr (.inr (.inl h))
  · have hk : Der (Bs opTs) opK := .known (op_bs.2 (by simp [opTs]))
    have hs : Der (Bs opTs) (.mk 3 [] [opK, opA]) := .known (op_bs.2 (by simp [opTs]))
    simp only [opKs, List.mem_cons, List.not_mem_nil, or_false] at hy
    rcases hy with rfl | rfl | rfl | rfl
    · exact hk
    · exact hs
    · exact .known (op_bs.2 (by simp [opTs]))
    · exact .opn hs hk
theorem op_ansA : Ans opTs opA := ⟨by decide +kernel, by rw [show nrm opA = opA from nrm_atom]; exact op_der.2 (.known (by simp [opKs]))⟩
theorem op_ansB : ¬ Ans opTs opB := fun h => op_noB (op_der.1 (by have := h.2; rwa [show nrm opB = opB from nrm_atom] at this))
theorem op_ansP : Ans opTs (.mk 2 [] [opA, opK]) := by
  refine ⟨by decide +kernel, ?_⟩
  rw [nrm_two (by decide) (by decide), show nrm opA = opA from nrm_atom, show nrm opK = opK from nrm_atom]
  refine op_der.2 (.comp (by decide) (by decide) fun x hx => ?_)
  simp only [List.mem_cons, List.not_mem_nil, or_false] at hx
  rcases hx with rfl | rfl <;> exact .known (by simp [opKs])
theorem op_len {l : List Tm} (h : Kn opTs l) (hs : Srt l) : l.length = 4 := by
  have a := nodup_le (big := opKs) hs.nodup fun x hx => by
    have hd := op_der.1 (h.der x hx)
    obtain ⟨t, ht, hx⟩ := h.sub x hx
    rw [op_nrm t ht] at hx
    have hin : x ∈ opTs.flatMap subs := List.mem_flatMap.2 ⟨t, ht, hx⟩
    have hl : ∀ y ∈ opTs.flatMap subs, y ∈ opKs ∨ y = opL ∨ y = opB := by decide +kernel
    rcases hl x hin with h | rfl | rfl
    · exact h
    · exact absurd hd op_noL
    · exact absurd hd op_noB
  have b := nodup_le (m := opKs) (big := l) (by decide +kernel) fun x hx => by
    simp only [opKs, List.mem_cons, List.not_mem_nil, or_false] at hx
    rcases hx with rfl | rfl | rfl | rfl
    · exact h.sup _ (op_bs.2 (by simp [opTs]))
    · exact h.sup _ (op_bs.2 (by simp [opTs]))
    · exact h.sup _ (op_bs.2 (by simp [opTs]))
    · exact Mk.atom_iff.1 ((h.mks _).2 (op_der.2 (.known (show opA ∈ opKs by simp [opKs]))))
  have e : opKs.length = 4 := rfl
  omega
end Go.Proofs.YtlpkcbkflfbclaaDoor.S
