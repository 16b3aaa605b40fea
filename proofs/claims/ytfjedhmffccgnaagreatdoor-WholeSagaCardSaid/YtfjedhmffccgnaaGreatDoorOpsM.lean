/- Regions that draw their order, in which something is turned: what holds until then. -/
import Derived.Test.YtfjedhmffccgnaaGreatDoorOps9
namespace Go.Proofs.YtfjedhmffccgnaaGreatDoor.S
open Go.RowKit
section
variable {P : Program} {ops : Array Oper} {Q : Exit → Act → World → Prop} {S0 S : World → Prop} {k : Nat}
def wpAnyZ (P : Program) (ops : Array Oper) (Q : Exit → Act → World → Prop) (S0 S : World → Prop) (k : Nat) : Nat → Array Bool → Act → World → Prop
  | 0, listed, a, w => Region.ready .any ops listed = [] ∧ Q .normal a w
  | fuel + 1, listed, a, w => (Region.ready .any ops listed = [] → Q .normal a w) ∧ ∀ i ∈ Region.ready .any ops listed, wpOp P ops Q i (fun a' w' => (S0 w' ∧ ((listed.setIfInBounds i true).getD k true = false → S w')) ∧ wpAnyZ P ops Q S0 S k fuel (listed.setIfInBounds i true) a' w') a w
theorem wpAnyZ.any : ∀ {fuel : Nat} {listed : Array Bool} {a : Act} {w : World}, wpAnyZ P ops Q S0 S k fuel listed a w → wpAny P .any ops Q fuel listed a w
 | 0, _, _, _, h => h
 | _ + 1, _, _, _, h => ⟨h.1, fun i hi => wpOp_mono (fun _ _ h' => h'.2.any) (h.2 i hi)⟩
theorem wpAnyZ_first {T : World → Prop} {i : Nat} {oi : Oper} {v : Value} (hi : ops[i]? = some oi) (hik : i ≠ k) (hm : (∀ w, S0 w → T w) ∨ (waits ops k i = true ∧ ∀ w, S w → T w)) (hsel : ∀ (j : Nat) (o : Oper) cs b, ops[j]? = some o → o.op ≠ .select cs b) (hQ : ∀ c a w, Q (.panic c) (a.put oi.dst v) w → Q (.panic c) a w) (fuel : Nat) :
 ∀ (listed : Array Bool) (a : Act) (w : World), (∀ j oj, ops[j]? = some oj → j ≠ i → listed.getD j true = false → (∀ e ∈ oj.after, Region.binds .any e = true → e.on ≠ i) → oi.apart ops oj = true) → i ∈ Region.ready .any ops listed → YieldsIf P ops T oi v a → S0 w → (listed.getD k true = false → S w) → ((∀ w, S0 w → T w) ∨ listed.getD k true = false) →
  wpAnyZ P ops Q S0 S k fuel (listed.setIfInBounds i true) (a.put oi.dst v) w → wpAnyZ P ops Q S0 S k (fuel + 1) listed a w := by
 have never : ∀ {listed : Array Bool} {j : Nat} {oj : Oper}, i ∈ Region.ready .any ops listed → j ∈ Region.ready .any ops listed → ops[j]? = some oj → ∀ e ∈ oj.after, Region.binds .any e = true → e.on ≠ i := by
  intro listed j oj hri hrj hoj e he hb heq
  obtain ⟨_, o', ho', hall⟩ := mem_ready.1 hrj
  rw [hoj] at ho'
  obtain rfl := Option.some.inj ho'
  have h1 := hall e he hb
  have h0 := (mem_ready.1 hri).1
  rw [heq] at h1
  rcases Nat.lt_or_ge i listed.size with h' | h'
  · simp [h'] at h0 h1; rw [h0] at h1; cases h1
  · simp [Array.getElem?_eq_none h'] at h1
 have notK : ∀ {listed : Array Bool} {j : Nat}, waits ops k i = true → i ∈ Region.ready .any ops listed → j ∈ Region.ready .any ops listed → j ≠ k := by
  rintro listed j hw hri hrj rfl
  obtain ⟨o, ho, e, he, hb, hon⟩ := waits_spec hw
  exact never hri hrj ho e he hb hon
 have tw : ∀ {listed : Array Bool} {w : World}, S0 w → (listed.getD k true = false → S w) → ((∀ w, S0 w → T w) ∨ listed.getD k true = false) → T w := by
  intro listed w h0 hS hk
  rcases hk with hk | hk
  · exact hk w h0
  ·
   rcases hm with hm | hm
   · exact hm w h0
   · exact hm.2 w (hS hk)
 have setk : ∀ {listed : Array Bool}, (listed.setIfInBounds i true).getD k true = listed.getD k true := fun {listed} => getD_set_ne true hik
 induction fuel with
 | zero =>
  intro listed a w _ hr hy h0 hS hk H
  refine ⟨fun h0 => absurd (h0 ▸ hr) (by simp), fun j hj => ?_⟩
  by_cases hji : j = i
  · subst hji; exact hy.wpOp hi (tw h0 hS hk) ⟨⟨h0, by rw [setk]; exact hS⟩, H⟩
  ·
   have := ready_mono hj hji
   rw [H.1] at this; cases this
 | succ fuel ih =>
  intro listed a w hfree hr hy h0 hS hk H
  refine ⟨fun h0 => absurd (h0 ▸ hr) (by simp), fun j hj => ?_⟩
  by_cases hji : j = i
  · subst hji; exact hy.wpOp hi (tw h0 hS hk) ⟨⟨h0, by rw [setk]; exact hS⟩, H⟩
  ·
   obtain ⟨hjun, oj, hoj, _⟩ := mem_ready.1 hj
   have hpass := wpOp_putIf hoj (hfree j oj hoj hji hjun (never hr hj hoj)) (fun cs b => hsel i oi cs b hi) (fun cs b => hsel j oj cs b hoj) hQ hy (H.2 j (ready_mono hj hji))
   refine wpOp_mono (fun a' w' ⟨hy', ⟨h0', hS'⟩, hrest⟩ => ?_) hpass
   have hS2 : (listed.setIfInBounds j true).getD k true = false → S w' := by
    rw [Array.setIfInBounds_comm _ _ (Ne.symm hji), setk] at hS'; exact hS'
   have hk2 : (∀ w, S0 w → T w) ∨ (listed.setIfInBounds j true).getD k true = false := by
    rcases hk with hk | hk
    · exact .inl hk
    ·
     rcases hm with hm | hm
     · exact .inl hm
     · exact .inr (by rw [getD_set_ne true (notK hm.1 hr hj)]; exact hk)
   refine ⟨⟨h0', hS2⟩, ih (listed.setIfInBounds j true) a' w' (fun m om hm hmi hun hno => hfree m om hm hmi ?_ hno) (ready_mono hr (Ne.symm hji)) hy' h0' hS2 hk2 ?_⟩
   ·
    by_cases hjm : j = m
    · subst hjm; exact hjun
    · rwa [getD_set_ne true hjm] at hun
   · rw [Array.setIfInBounds_comm _ _ hji]; exact hrest
end
section
variable {C : Ctx} {e : Env} {L : List Blk} {S : List Blk → Prop} {k : Nat} {ops : Array Oper} {Q : Post} {fuel : Nat} {listed : Array Bool}
def TZ (C : Ctx) (S : List Blk → Prop) (k : Nat) (ops : Array Oper) (Q : Post) (fuel : Nat) (listed : Array Bool) (e : Env) (L : List Blk) : Prop :=
  ∀ a w, Rel C.n e a → St C.w0 C.M L w → (listed.getD k true = false → S L) → wpAnyZ C.P ops (lift C Q) (fun w => ∃ L, St C.w0 C.M L w) (fun w => ∃ L, St C.w0 C.M L w ∧ S L) k fuel listed a w
theorem T.drawZ {id : Nat} {l : List Oper} {Q : Post} (S : List Blk → Prop) (k : Nat) (hm : C.P.follows .mixedOrders = true) (hS : S L) (h : TZ C S k l.toArray Q l.toArray.size (Array.replicate l.toArray.size false) e L) : T C (.region id l.toArray true) Q e L :=
 fun a _ hr hs => wp_region_any hm (wpAnyZ.any (h a _ hr (hs.drew _ (Nat.le_succ _)) (fun _ => hS)))
theorem TZ.done (hr : Region.ready .any ops listed = []) (h : Q .normal e L) : TZ C S k ops Q fuel listed e L := by
 intro a w hrel hs _
 cases fuel with
 | zero => exact ⟨hr, e, L, hrel, hs, h⟩
 | succ n => exact ⟨fun _ => ⟨e, L, hrel, hs, h⟩, by rw [hr]; simp⟩
def okZ (k : Nat) (i : Nat) : Bool := !(Nat.beq i k)
theorem TZ.pure (i : Nat) {o : Oper} {v : Value} (hi : ops[i]? = some o) (hsel : Region.noSelect ops = true) (hf : Region.free .any ops listed i = true) (hr : (Region.ready .any ops listed).contains i = true) (hk : okZ k i = true)
 (hg : wantedE C.n ops e o.guard = true) (hQ : ∀ c e L, ¬ Q (.panic c) e L) (hy : ∀ L, V1 C o e L v)
 (h : TZ C S k ops Q fuel (listed.setIfInBounds i true) (putO e o.dst v) L) : TZ C S k ops Q (fuel + 1) listed e L := by
 intro a w hrel hs hS
 have hik : i ≠ k := fun he => by rw [he] at hk; unfold okZ at hk; rw [Nat.beq_refl] at hk; cases hk
 refine wpAnyZ_first (T := fun w => ∃ L, St C.w0 C.M L w) hi hik (.inl fun _ h => h) (Region.noSelect_spec hsel) ?_ fuel listed a w (Region.free_spec hi hf) (by simpa using hr) ?_ ⟨L, hs⟩ (fun h => ⟨L, hs, hS h⟩) (.inl fun _ h => h) (h _ _ (hrel.put _ _) hs (fun h => hS (by rwa [getD_set_ne true hik] at h)))
 ·
  rintro c a w ⟨e', L', _, _, hq⟩
  exact absurd hq (hQ c e' L')
 ·
  refine .inl ⟨by rw [wanted_eq hrel]; exact hg, ?_⟩
  rintro w' ⟨L', hs'⟩
  rw [hrel.eval]
  exact hy L' w' hs'
theorem TZ.read (i : Nat) {o : Oper} {v : Value} (hi : ops[i]? = some o) (hsel : Region.noSelect ops = true) (hf : Region.free .any ops listed i = true) (hr : (Region.ready .any ops listed).contains i = true) (hk : okX ops k listed i = true)
 (hg : wantedE C.n ops e o.guard = true) (hQ : ∀ c e L, ¬ Q (.panic c) e L) (hy : ∀ L, S L → V1 C o e L v)
 (h : TZ C S k ops Q fuel (listed.setIfInBounds i true) (putO e o.dst v) L) : TZ C S k ops Q (fuel + 1) listed e L := by
 intro a w hrel hs hS
 unfold okX at hk
 simp only [Bool.and_eq_true, Bool.not_eq_true'] at hk
 have hik : i ≠ k := fun he => by have := hk.1.2; rw [he, Nat.beq_refl] at this; cases this
 refine wpAnyZ_first (T := fun w => ∃ L, St C.w0 C.M L w ∧ S L) hi hik (.inr ⟨hk.1.1, fun _ h => h⟩) (Region.noSelect_spec hsel) ?_ fuel listed a w (Region.free_spec hi hf) (by simpa using hr) ?_ ⟨L, hs⟩ (fun h => ⟨L, hs, hS h⟩) (.inr hk.2) (h _ _ (hrel.put _ _) hs (fun h => hS (by rwa [getD_set_ne true hik] at h)))
 ·
  rintro c a w ⟨e', L', _, _, hq⟩
  exact absurd hq (hQ c e' L')
 ·
  refine .inl ⟨by rw [wanted_eq hrel]; exact hg, ?_⟩
  rintro w' ⟨L', hs', hS'⟩
  rw [hrel.eval]
  exact hy L' hS' w' hs'
theorem TZ.one (i : Nat) {o : Oper} (hr : Region.ready .any ops listed = [i]) (ho : ops[i]? = some o) (hk : (listed.setIfInBounds i true).getD k true = true) (hg : wantedE C.n ops e o.guard = true)
 (h : T1 C o (fun e' L' => TZ C S k ops Q fuel (listed.setIfInBounds i true) e' L') e L) : TZ C S k ops Q (fuel + 1) listed e L := by
 intro a w hrel hs _
 refine ⟨fun h0 => (by rw [hr] at h0; cases h0), fun j hj => ?_⟩
 rw [hr, List.mem_singleton] at hj
 subst hj
 unfold wpOp
 simp only [ho]
 rw [wanted_eq hrel, hg]
 simp only [if_true]
 refine .inl (h a w _ _ hrel hs ?_)
 intro a' w' e' L' hr' hs' hT'
 exact ⟨⟨⟨L', hs'⟩, fun h => by rw [hk] at h; cases h⟩, hT' a' w' hr' hs' (fun h => by rw [hk] at h; cases h)⟩
theorem TZ.oneS (i : Nat) {o : Oper} (hr : Region.ready .any ops listed = [i]) (ho : ops[i]? = some o) (hg : wantedE C.n ops e o.guard = true)
 (h : T1 C o (fun e' L' => S L' ∧ TZ C S k ops Q fuel (listed.setIfInBounds i true) e' L') e L) : TZ C S k ops Q (fuel + 1) listed e L := by
 intro a w hrel hs _
 refine ⟨fun h0 => (by rw [hr] at h0; cases h0), fun j hj => ?_⟩
 rw [hr, List.mem_singleton] at hj
 subst hj
 unfold wpOp
 simp only [ho]
 rw [wanted_eq hrel, hg]
 simp only [if_true]
 refine .inl (h a w _ _ hrel hs ?_)
 intro a' w' e' L' hr' hs' hT'
 exact ⟨⟨⟨L', hs'⟩, fun _ => ⟨L', hs', hT'.1⟩⟩, hT'.2 a' w' hr' hs' (fun _ => hT'.1)⟩
end
end Go.Proofs.YtfjedhmffccgnaaGreatDoor.S
