/- Summing leaves its parts as they were. -/
import Derived.Test.YtmolpgnekcfimaaS9
namespace Go.Proofs.Ytmolpgnekcfimaa.S
open Go.RowKit

open Sh
theorem PartR.front {w0 : World} {Ps : List Blk} {b off c size : Nat} {cells : List Value} {p : List UInt8} (hB : (⟨b, off, cells, size⟩ : Blk) ∈ Ps) (hp : cells.take p.length = p.map byteV) : PartR w0 Ps (.slice (some ⟨b, off, none⟩) p.length c) p := by
  have := PartR.piece (w0 := w0) (o := 0) (c := c) hB (p := p) (by rw [List.drop_zero]; exact hp)
  exact this
theorem two_parts {w0 : World} {Ps : List Blk} {v u : Value} {p q : List UInt8} (h : PartR w0 Ps v p) (g : PartR w0 Ps u q) : ∀ (i : Nat) (sv : Value) (r : List UInt8), [v, u][i]? = some sv → [p, q][i]? = some r → PartR w0 Ps sv r := by
  intro i sv r h1 h2
  match i with
  | 0 => cases h1; cases h2; exact h
  | 1 => cases h1; cases h2; exact g
  | i + 2 => simp at h1
theorem two_len {p q : List UInt8} {N : Nat} (h : p.length ≤ N) (g : q.length ≤ N) : ∀ r ∈ [p, q], r.length ≤ N := by
  intro r hr
  simp only [List.mem_cons, List.not_mem_nil, or_false] at hr
  rcases hr with rfl | rfl <;> assumption

end Go.Proofs.Ytmolpgnekcfimaa.S
