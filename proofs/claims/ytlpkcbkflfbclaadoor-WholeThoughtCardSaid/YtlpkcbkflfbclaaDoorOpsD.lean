/- Loops gone through round by round. Holds for every program. -/
import Derived.Test.YtlpkcbkflfbclaaDoorOpsC
import Derived.LoopN
namespace Go.Proofs.YtlpkcbkflfbclaaDoor.S
open Go.RowKit

/-- A loop that ends within n rounds. -/
def TR (C : Ctx) (c : Code) (Q : Post) (n : Nat) (e : Env) (L : List Blk) : Prop := ∀ a w, Rel C.n e a → St C.w0 C.M L w → Code.rounds C.P c (lift C Q) n a w
def rndU (C : Ctx) (c : Code) (Q : Post) (n : Nat) : Post
  | .normal, e, L => TR C c Q n e L
  | x, e, L => Q x e L
theorem T.rounds {C : Ctx} {c : Code} {Q : Post} {e : Env} {L : List Blk} (n : Nat) (h : TR C c Q n e L) : T C (.loop c) Q e L := fun a w hr hs => wp_loop_rounds n (h a w hr hs)
theorem TR.step {C : Ctx} {c : Code} {Q : Post} {n : Nat} {e : Env} {L : List Blk} (h : T C c (rndU C c Q n) e L) : TR C c Q (n + 1) e L := by
  intro a w hr hs
  show c.wp C.P (Exit.then (Code.rounds C.P c (lift C Q) n) (lift C Q)) a w
  refine wp_mono (h a w hr hs) ?_
  intro ex a' w' ⟨e', L', hr', hs', hq⟩
  cases ex with
  | normal => exact hq a' w' hr' hs'
  | _ => exact ⟨e', L', hr', hs', hq⟩
section
variable {C : Ctx} {e : Env} {L : List Blk}
theorem TK.three {S : List Blk → Prop} {ops : Array Oper} {Q : Post} {fuel : Nat} {listed : Array Bool} (i j k : Nat) {oi oj ok : Oper} (hr : Region.ready .any ops listed = [i, j, k]) (hoi : ops[i]? = some oi) (hoj : ops[j]? = some oj) (hok : ops[k]? = some ok) (hgi : wantedE C.n ops e oi.guard = true) (hgj : wantedE C.n ops e oj.guard = true) (hgk : wantedE C.n ops e ok.guard = true)
    (hi : T1 C oi (fun e' L' => S L' ∧ TD C S ops Q fuel (listed.setIfInBounds i true) e' L') e L) (hj : T1 C oj (fun e' L' => S L' ∧ TD C S ops Q fuel (listed.setIfInBounds j true) e' L') e L) (hk : T1 C ok (fun e' L' => S L' ∧ TD C S ops Q fuel (listed.setIfInBounds k true) e' L') e L) : TD C S ops Q (fuel + 1) listed e L :=
  TD.all hr (by simp) fun q hq => by
    simp only [List.mem_cons, List.not_mem_nil, or_false] at hq
    rcases hq with rfl | rfl | rfl
    · exact ⟨oi, hoi, fun _ => hi, fun h0 => by rw [hgi] at h0; cases h0⟩
    · exact ⟨oj, hoj, fun _ => hj, fun h0 => by rw [hgj] at h0; cases h0⟩
    · exact ⟨ok, hok, fun _ => hk, fun h0 => by rw [hgk] at h0; cases h0⟩
theorem TK.four {S : List Blk → Prop} {ops : Array Oper} {Q : Post} {fuel : Nat} {listed : Array Bool} (i j k m : Nat) {oi oj ok om : Oper} (hr : Region.ready .any ops listed = [i, j, k, m]) (hoi : ops[i]? = some oi) (hoj : ops[j]? = some oj) (hok : ops[k]? = some ok) (hom : ops[m]? = some om) (hgi : wantedE C.n ops e oi.guard = true) (hgj : wantedE C.n ops e oj.guard = true) (hgk : wantedE C.n ops e ok.guard = true) (hgm : wantedE C.n ops e om.guard = true)
    (hi : T1 C oi (fun e' L' => S L' ∧ TD C S ops Q fuel (listed.setIfInBounds i true) e' L') e L) (hj : T1 C oj (fun e' L' => S L' ∧ TD C S ops Q fuel (listed.setIfInBounds j true) e' L') e L) (hk : T1 C ok (fun e' L' => S L' ∧ TD C S ops Q fuel (listed.setIfInBounds k true) e' L') e L) (hm : T1 C om (fun e' L' => S L' ∧ TD C S ops Q fuel (listed.setIfInBounds m true) e' L') e L) : TD C S ops Q (fuel + 1) listed e L :=
  TD.all hr (by simp) fun q hq => by
    simp only [List.mem_cons, List.not_mem_nil, or_false] at hq
    rcases hq with rfl | rfl | rfl | rfl
    · exact ⟨oi, hoi, fun _ => hi, fun h0 => by rw [hgi] at h0; cases h0⟩
    · exact ⟨oj, hoj, fun _ => hj, fun h0 => by rw [hgj] at h0; cases h0⟩
    · exact ⟨ok, hok, fun _ => hk, fun h0 => by rw [hgk] at h0; cases h0⟩
    · exact ⟨om, hom, fun _ => hm, fun h0 => by rw [hgm] at h0; cases h0⟩
end
end Go.Proofs.YtlpkcbkflfbclaaDoor.S
