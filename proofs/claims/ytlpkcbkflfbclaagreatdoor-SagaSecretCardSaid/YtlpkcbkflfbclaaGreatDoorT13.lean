/- Somebody's knowledge, made of what came; the first example. -/
import Derived.Test.YtlpkcbkflfbclaaGreatDoorT12
import Derived.Test.YtlpkcbkflfbclaaGreatDoorTmSpec
import Derived.Test.YtlpkcbkflfbclaaGreatDoorTmMem
namespace Go.Proofs.YtlpkcbkflfbclaaGreatDoor.S
open Go.RowKit

section
variable {C : Ctx} {e : Env} {L : List Blk} {dst : Option Tmp} {ty : TypeId} {pos : String} {after : Array Edge} {guard : Option (Nat × Bool)}
end
theorem Makes_k {w0 : World} {Ps : List Blk} {kb : Nat} {l ts : List Tm} {Y : List Blk} (hk : KnO w0 Ps kb l Y) (hn : Kn ts l) (Qs : List Blk) {t : Tm} {ct : List Value} (hx : TmR w0 Qs t ct) : FnV P 28 [.pointer (some ⟨kb, 0, none⟩), .agg ct.toArray] w0 (Y ++ (Qs ++ Ps)) fun v => ∃ r, v = .bool r ∧ (r = true ↔ Ans ts t) := by
  refine (Makes_kn w0 (Qs ++ Ps) (hk.more (Inc.skip Inc.refl)) t ct (hx.more (Inc.skip Inc.here))).mono ?_
  rintro v Y' ⟨h1, r, rfl, h2⟩
  exact ⟨h1, r, rfl, by rw [h2, hn.ans]⟩
end Go.Proofs.YtlpkcbkflfbclaaGreatDoor.S
