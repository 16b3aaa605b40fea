/- Two texts in order; texts put together with something between. -/
import Derived.Test.YtdgbckfnamiebaaDoorB3
import Derived.Test.YtdgbckfnamiebaaDoorOpsD
namespace Go.Proofs.YtdgbckfnamiebaaDoor.S
open Go.RowKit

/-- Does a text stand ahead of another? -/
def ltB (a b : List UInt8) : Bool := Op.bytesLess (bstr a).toList (bstr b).toList
/-- A builder whose buffer may be there already. -/
def BG (b : Nat) (l : List UInt8) (X : List Blk) : Prop := ∃ p s Ls, (p = .pointer none ∨ p = .pointer (some ⟨b, 0, none⟩)) ∧ X = ⟨⟨b, some 42⟩, 0, [p, s], 2⟩ :: Ls ∧ SlG (some 5) s (l.map byteV) 1 Ls
theorem BB.bg {b : Nat} {l : List UInt8} {X : List Blk} (h : BB b l X) : BG b l X := by
  obtain ⟨p, s, Ls, h1, h2, h3, _⟩ := h
  exact ⟨p, s, Ls, h1, h2, h3⟩
theorem BG.bb {b : Nat} {l : List UInt8} {X : List Blk} (h : BG b l X) (h0 : l ≠ []) : BB b l X := by
  obtain ⟨p, s, Ls, h1, h2, h3⟩ := h
  exact ⟨p, s, Ls, h1, h2, h3, fun h => absurd h h0⟩

end Go.Proofs.YtdgbckfnamiebaaDoor.S
