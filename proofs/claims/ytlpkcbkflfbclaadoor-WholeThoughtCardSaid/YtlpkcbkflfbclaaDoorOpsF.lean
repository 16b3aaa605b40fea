/- Regions that draw their order, with something kept in mind until one operation (number k, which waits for the readers) has come: behind it nothing is asked. Holds for every program. -/
import Derived.Test.YtlpkcbkflfbclaaDoorOpsE
namespace Go.Proofs.YtlpkcbkflfbclaaDoor.S
open Go.RowKit

section
variable {P : Program} {ops : Array Oper} {Q : Exit → Act → World → Prop} {S : World → Prop} {k : Nat}
/-- Whatever order is picked from here on; S holds behind every operation but number k. -/
def wpAnyK (P : Program) (ops : Array Oper) (Q : Exit → Act → World → Prop) (S : World → Prop) (k : Nat) : Nat → Array Bool → Act → World → Prop
  | 0, listed, a, w => Region.ready .any ops listed = [] ∧ Q .normal a w
  | fuel + 1, listed, a, w => (Region.ready .any ops listed = [] → Q .normal a w) ∧ ∀ i ∈ Region.ready .any ops listed, wpOp P ops Q i (fun a' w' => (i ≠ k → S w') ∧ wpAnyK P ops Q S k fuel (listed.setIfInBounds i true) a' w') a w
theorem wpAnyK.any : ∀ {fuel : Nat} {listed : Array Bool} {a : Act} {w : World}, wpAnyK P ops Q S k fuel listed a w → wpAny P .any ops Q fuel listed a w
  | 0, _, _, _, h => h
  | _ + 1, _, _, _, h => ⟨h.1, fun i hi => wpOp_mono (fun _ _ h' => h'.2.any) (h.2 i hi)⟩
/-- Does number k wait for number i? -/
def waits (ops : Array Oper) (k i : Nat) : Bool := match ops[k]? with | some o => o.after.toList.any (fun e => Region.binds .any e && e.on == i) | none => false
theorem waits_spec {i : Nat} (h : waits ops k i = true) : ∃ o, ops[k]? = some o ∧ ∃ e ∈ o.after, Region.binds .any e = true ∧ e.on = i := by
  unfold waits at h
  split at h
  · rename_i o ho
    rw [List.any_eq_true] at h
    obtain ⟨e, he, hb⟩ := h
    simp only [Bool.and_eq_true, beq_iff_eq] at hb
    exact ⟨o, ho, e, by simpa using he, hb.1, hb.2⟩
  · cases h
/-- A reader may be taken first, as long as number k, which waits for it, has not come. -/
theorem wpAnyK_first {i : Nat} {oi : Oper} {v : Value} (hi : ops[i]? = some oi) (hw : waits ops k i = true) (hik : i ≠ k) (hsel : ∀ (j : Nat) (o : Oper) cs b, ops[j]? = some o → o.op ≠ .select cs b) (hQ : ∀ c a w, Q (.panic c) (a.put oi.dst v) w → Q (.panic c) a w) (fuel : Nat) :
    ∀ (listed : Array Bool) (a : Act) (w : World), (∀ j oj, ops[j]? = some oj → j ≠ i → listed.getD j true = false → (∀ e ∈ oj.after, Region.binds .any e = true → e.on ≠ i) → oi.apart ops oj = true) → i ∈ Region.ready .any ops listed → YieldsIf P ops S oi v a → S w →
      wpAnyK P ops Q S k fuel (listed.setIfInBounds i true) (a.put oi.dst v) w → wpAnyK P ops Q S k (fuel + 1) listed a w := by
  have never : ∀ {listed : Array Bool} {j : Nat} {oj : Oper}, i ∈ Region.ready .any ops listed → j ∈ Region.ready .any ops listed → ops[j]? = some oj → ∀ e ∈ oj.after, Region.binds .any e = true → e.on ≠ i := by
    intro listed j oj hri hrj hoj e he hb heq
    obtain ⟨_, o', ho', hall⟩ := mem_ready.1 hrj
    rw [hoj] at ho'
    obtain rfl := Option.some.inj ho'
    have h1 := hall e he hb
    have h0 := (mem_ready.1 hri).1
    rw [heq] at h1
    rcases Nat.lt_or_ge i listed.size with h' | h'
    · simp [h'] at h0 h1; rw [h0] at h1; cases h1
    · simp [Array.getElem?_eq_none h'] at h1
  have notK : ∀ {listed : Array Bool} {j : Nat}, i ∈ Region.ready .any ops listed → j ∈ Region.ready .any ops listed → j ≠ k := by
    rintro listed j hri hrj rfl
    obtain ⟨o, ho, e, he, hb, hon⟩ := waits_spec hw
    exact never hri hrj ho e he hb hon
  induction fuel with
  | zero =>
    intro listed a w _ hr hy hS H
    refine ⟨fun h0 => absurd (h0 ▸ hr) (by simp), fun j hj => ?_⟩
    by_cases hji : j = i
    · subst hji; exact hy.wpOp hi hS ⟨fun _ => hS, H⟩
    · have := ready_mono hj hji
      rw [H.1] at this; cases this
  | succ fuel ih =>
    intro listed a w hfree hr hy hS H
    refine ⟨fun h0 => absurd (h0 ▸ hr) (by simp), fun j hj => ?_⟩
    by_cases hji : j = i
    · subst hji; exact hy.wpOp hi hS ⟨fun _ => hS, H⟩
    · obtain ⟨hjun, oj, hoj, _⟩ := mem_ready.1 hj
      have hpass := wpOp_putIf hoj (hfree j oj hoj hji hjun (never hr hj hoj)) (fun cs b => hsel i oi cs b hi) (fun cs b => hsel j oj cs b hoj) hQ hy (H.2 j (ready_mono hj hji))
      refine wpOp_mono (fun a' w' ⟨hy', hS', hrest⟩ => ⟨hS', ?_⟩) hpass
      have hSw := hS' (notK hr hj)
      refine ih (listed.setIfInBounds j true) a' w' (fun m om hm hmi hun hno => hfree m om hm hmi ?_ hno) (ready_mono hr (Ne.symm hji)) hy' hSw ?_
      · by_cases hjm : j = m
        · subst hjm; exact hjun
        · rwa [getD_set_ne true hjm] at hun
      · rw [Array.setIfInBounds_comm _ _ hji]; exact hrest
end

section
variable {C : Ctx} {e : Env} {L : List Blk} {S : List Blk → Prop} {k : Nat} {ops : Array Oper} {Q : Post} {fuel : Nat} {listed : Array Bool}
def TX (C : Ctx) (S : List Blk → Prop) (k : Nat) (ops : Array Oper) (Q : Post) (fuel : Nat) (listed : Array Bool) (e : Env) (L : List Blk) : Prop :=
  ∀ a w, Rel C.n e a → St C.w0 C.M L w → (listed.getD k true = false → S L) → wpAnyK C.P ops (lift C Q) (fun w => ∃ L, St C.w0 C.M L w ∧ S L) k fuel listed a w
theorem T.drawX {id : Nat} {l : List Oper} {Q : Post} (S : List Blk → Prop) (k : Nat) (hm : C.P.follows .mixedOrders = true) (hS : S L) (h : TX C S k l.toArray Q l.toArray.size (Array.replicate l.toArray.size false) e L) : T C (.region id l.toArray true) Q e L :=
  fun a _ hr hs => wp_region_any hm (wpAnyK.any (h a _ hr (hs.drew _ (Nat.le_succ _)) (fun _ => hS)))
theorem TX.done (hr : Region.ready .any ops listed = []) (h : Q .normal e L) : TX C S k ops Q fuel listed e L := by
  intro a w hrel hs _
  cases fuel with
  | zero => exact ⟨hr, e, L, hrel, hs, h⟩
  | succ n => exact ⟨fun _ => ⟨e, L, hrel, hs, h⟩, by rw [hr]; simp⟩
def okX (ops : Array Oper) (k : Nat) (listed : Array Bool) (i : Nat) : Bool := waits ops k i && !(Nat.beq i k) && !(listed.getD k true)
theorem TX.take (i : Nat) {o : Oper} {v : Value} (hi : ops[i]? = some o) (hsel : Region.noSelect ops = true) (hf : Region.free .any ops listed i = true) (hr : (Region.ready .any ops listed).contains i = true) (hk : okX ops k listed i = true)
    (hg : wantedE C.n ops e o.guard = true) (hQ : ∀ c e L, ¬ Q (.panic c) e L) (hy : ∀ L, S L → V1 C o e L v)
    (h : TX C S k ops Q fuel (listed.setIfInBounds i true) (putO e o.dst v) L) : TX C S k ops Q (fuel + 1) listed e L := by
  intro a w hrel hs hS
  unfold okX at hk
  simp only [Bool.and_eq_true, Bool.not_eq_true'] at hk
  have hik : i ≠ k := fun he => by have := hk.1.2; rw [he, Nat.beq_refl] at this; cases this
  have hSL := hS hk.2
  refine wpAnyK_first hi hk.1.1 hik (Region.noSelect_spec hsel) ?_ fuel listed a w (Region.free_spec hi hf) (by simpa using hr) ?_ ⟨L, hs, hSL⟩ (h _ _ (hrel.put _ _) hs (fun _ => hSL))
  · rintro c a w ⟨e', L', _, _, hq⟩
    exact absurd hq (hQ c e' L')
  · refine .inl ⟨by rw [wanted_eq hrel]; exact hg, ?_⟩
    rintro w' ⟨L', hs', hS'⟩
    rw [hrel.eval]
    exact hy L' hS' w' hs'
theorem TX.takeNo (i : Nat) {o : Oper} (hi : ops[i]? = some o) (hsel : Region.noSelect ops = true) (hf : Region.free .any ops listed i = true) (hr : (Region.ready .any ops listed).contains i = true) (hk : okX ops k listed i = true)
    (hg : wantedE C.n ops e o.guard = false) (hQ : ∀ c e L, ¬ Q (.panic c) e L) (h : TX C S k ops Q fuel (listed.setIfInBounds i true) (putO e o.dst undef) L) : TX C S k ops Q (fuel + 1) listed e L := by
  intro a w hrel hs hS
  unfold okX at hk
  simp only [Bool.and_eq_true, Bool.not_eq_true'] at hk
  have hik : i ≠ k := fun he => by have := hk.1.2; rw [he, Nat.beq_refl] at this; cases this
  have hSL := hS hk.2
  refine wpAnyK_first (v := undef) hi hk.1.1 hik (Region.noSelect_spec hsel) ?_ fuel listed a w (Region.free_spec hi hf) (by simpa using hr) (.inr ⟨by rw [wanted_eq hrel]; exact hg, rfl⟩) ⟨L, hs, hSL⟩ (h _ _ (hrel.put _ _) hs (fun _ => hSL))
  rintro c a w ⟨e', L', _, _, hq⟩
  exact absurd hq (hQ c e' L')
theorem TX.all {rs : List Nat} (hr : Region.ready .any ops listed = rs) (hne : rs ≠ [])
    (h : ∀ i ∈ rs, ∃ o, ops[i]? = some o ∧ Tg C ops o (fun e' L' => (i ≠ k → S L') ∧ TX C S k ops Q fuel (listed.setIfInBounds i true) e' L') e L) : TX C S k ops Q (fuel + 1) listed e L := by
  intro a w hrel hs _
  refine ⟨fun h0 => absurd (hr ▸ h0) hne, fun i hi => ?_⟩
  have hi' := hi
  rw [hr] at hi
  obtain ⟨o, ho, hg1, hg0⟩ := h i hi
  have hil : i < listed.size := by
    have := (mem_ready.1 hi').1
    rcases Nat.lt_or_ge i listed.size with h' | h'
    · exact h'
    · simp [Array.getElem?_eq_none h'] at this
  have hnext : ∀ L', (i ≠ k → S L') → (listed.setIfInBounds i true).getD k true = false → S L' := by
    intro L' hS' hk
    refine hS' fun he => ?_
    subst he
    simp [hil] at hk
  unfold wpOp
  simp only [ho]
  rw [wanted_eq hrel]
  cases hw : wantedE C.n ops e o.guard with
  | true =>
    simp only [if_true]
    refine .inl (hg1 hw a w _ _ hrel hs ?_)
    intro a' w' e' L' hr' hs' ⟨hS', hT'⟩
    exact ⟨fun hik => ⟨L', hs', hS' hik⟩, hT' a' w' hr' hs' (hnext L' hS')⟩
  | false =>
    simp only [Bool.false_eq_true, if_false]
    obtain ⟨hS', hT'⟩ := hg0 hw
    exact ⟨fun hik => ⟨L, hs, hS' hik⟩, hT' _ _ (hrel.put _ _) hs (hnext L hS')⟩
theorem T1.and {o : Oper} {K K' : Env → List Blk → Prop} (h : T1 C o K e L) (hk : ∀ e L, K e L → K' e L) : T1 C o K' e L := fun a w K'' Q' hr hs hK => h a w K'' Q' hr hs fun a' w' e' L' h1 h2 h3 => hK a' w' e' L' h1 h2 (hk _ _ h3)
theorem TX.one (i : Nat) {o : Oper} (hr : Region.ready .any ops listed = [i]) (ho : ops[i]? = some o) (hg : wantedE C.n ops e o.guard = true)
    (h : T1 C o (fun e' L' => S L' ∧ TX C S k ops Q fuel (listed.setIfInBounds i true) e' L') e L) : TX C S k ops Q (fuel + 1) listed e L :=
  TX.all hr (by simp) fun j hj => by
    obtain rfl : j = i := by simpa using hj
    exact ⟨o, ho, fun _ => T1.and h fun _ _ h => ⟨fun _ => h.1, h.2⟩, fun h0 => by rw [hg] at h0; cases h0⟩
theorem TX.oneK {o : Oper} (hr : Region.ready .any ops listed = [k]) (ho : ops[k]? = some o) (hg : wantedE C.n ops e o.guard = true)
    (h : T1 C o (fun e' L' => TX C S k ops Q fuel (listed.setIfInBounds k true) e' L') e L) : TX C S k ops Q (fuel + 1) listed e L :=
  TX.all hr (by simp) fun j hj => by
    obtain rfl : j = k := by simpa using hj
    exact ⟨o, ho, fun _ => T1.and h fun _ _ h => ⟨fun hn => absurd rfl hn, h⟩, fun h0 => by rw [hg] at h0; cases h0⟩
theorem TX.two (i j : Nat) {oi oj : Oper} (hr : Region.ready .any ops listed = [i, j]) (hoi : ops[i]? = some oi) (hoj : ops[j]? = some oj) (hgi : wantedE C.n ops e oi.guard = true) (hgj : wantedE C.n ops e oj.guard = true)
    (hi : T1 C oi (fun e' L' => S L' ∧ TX C S k ops Q fuel (listed.setIfInBounds i true) e' L') e L) (hj : T1 C oj (fun e' L' => S L' ∧ TX C S k ops Q fuel (listed.setIfInBounds j true) e' L') e L) : TX C S k ops Q (fuel + 1) listed e L :=
  TX.all hr (by simp) fun m hm => by
    simp only [List.mem_cons, List.not_mem_nil, or_false] at hm
    rcases hm with rfl | rfl
    · exact ⟨oi, hoi, fun _ => T1.and hi fun _ _ h => ⟨fun _ => h.1, h.2⟩, fun h0 => by rw [hgi] at h0; cases h0⟩
    · exact ⟨oj, hoj, fun _ => T1.and hj fun _ _ h => ⟨fun _ => h.1, h.2⟩, fun h0 => by rw [hgj] at h0; cases h0⟩
theorem TX.three (i j m : Nat) {oi oj om : Oper} (hr : Region.ready .any ops listed = [i, j, m]) (hoi : ops[i]? = some oi) (hoj : ops[j]? = some oj) (hom : ops[m]? = some om) (hgi : wantedE C.n ops e oi.guard = true) (hgj : wantedE C.n ops e oj.guard = true) (hgm : wantedE C.n ops e om.guard = true)
    (hi : T1 C oi (fun e' L' => S L' ∧ TX C S k ops Q fuel (listed.setIfInBounds i true) e' L') e L) (hj : T1 C oj (fun e' L' => S L' ∧ TX C S k ops Q fuel (listed.setIfInBounds j true) e' L') e L) (hm : T1 C om (fun e' L' => S L' ∧ TX C S k ops Q fuel (listed.setIfInBounds m true) e' L') e L) : TX C S k ops Q (fuel + 1) listed e L :=
  TX.all hr (by simp) fun q hq => by
    simp only [List.mem_cons, List.not_mem_nil, or_false] at hq
    rcases hq with rfl | rfl | rfl
    · exact ⟨oi, hoi, fun _ => T1.and hi fun _ _ h => ⟨fun _ => h.1, h.2⟩, fun h0 => by rw [hgi] at h0; cases h0⟩
    · exact ⟨oj, hoj, fun _ => T1.and hj fun _ _ h => ⟨fun _ => h.1, h.2⟩, fun h0 => by rw [hgj] at h0; cases h0⟩
    · exact ⟨om, hom, fun _ => T1.and hm fun _ _ h => ⟨fun _ => h.1, h.2⟩, fun h0 => by rw [hgm] at h0; cases h0⟩
end
end Go.Proofs.YtlpkcbkflfbclaaDoor.S
