/- Loops gone through round by round. Holds for every program. -/
import Derived.Test.YtdgbckfnamiebaaOpsC
import Derived.LoopN
namespace Go.Proofs.Ytdgbckfnamiebaa.S
open Go.RowKit

/-- A loop that ends within n rounds. -/
def TR (C : Ctx) (c : Code) (Q : Post) (n : Nat) (e : Env) (L : List Blk) : Prop := ∀ a w, Rel C.n e a → St C.w0 C.M L w → Code.rounds C.P c (lift C Q) n a w
def rndU (C : Ctx) (c : Code) (Q : Post) (n : Nat) : Post
  | .normal, e, L => TR C c Q n e L
  | x, e, L => Q x e L
theorem T.rounds {C : Ctx} {c : Code} {Q : Post} {e : Env} {L : List Blk} (n : Nat) (h : TR C c Q n e L) : T C (.loop c) Q e L := fun a w hr hs => wp_loop_rounds n (h a w hr hs)
theorem TR.step {C : Ctx} {c : Code} {Q : Post} {n : Nat} {e : Env} {L : List Blk} (h : T C c (rndU C c Q n) e L) : TR C c Q (n + 1) e L := by
  intro a w hr hs
  show c.wp C.P (Exit.then (Code.rounds C.P c (lift C Q) n) (lift C Q)) a w
  refine wp_mono (h a w hr hs) ?_
  intro ex a' w' ⟨e', L', hr', hs', hq⟩
  cases ex with
  | normal => exact hq a' w' hr' hs'
  | _ => exact ⟨e', L', hr', hs', hq⟩
end Go.Proofs.Ytdgbckfnamiebaa.S
