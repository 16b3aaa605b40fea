/- Slices of slices that came in: an inner one that is empty may lie anywhere. Holds for every program. -/
import Derived.Test.YtlpkcbkflfbclaaDoorOps9
namespace Go.Proofs.YtlpkcbkflfbclaaDoor.S
open Go.RowKit

/-- A slice of bytes that lay in another slice when it came in. -/
def InR (w0 : World) (v : Value) (p : List UInt8) : Prop := SlR w0 v 1 p.length (p.map byteV) ∨ (p = [] ∧ ∃ a, v = .slice (some a) 0 0)
theorem InR.form {w0 : World} {v : Value} {p : List UInt8} (h : InR w0 v p) : ∃ a c, v = .slice a p.length c := by
  rcases h with h | ⟨rfl, a, rfl⟩
  · exact h.form
  · exact ⟨_, _, rfl⟩
theorem InR.part {w0 : World} {v : Value} {p : List UInt8} {Ps : List Blk} (h : InR w0 v p) : PartR w0 Ps v p := by
  rcases h with h | ⟨rfl, a, rfl⟩
  · exact PartR.old h
  · exact ⟨⟨_, _, rfl⟩, fun C _ _ L _ => .odd⟩
theorem InR.src {C : Ctx} {L : List Blk} {v : Value} {p : List UInt8} (h : InR C.w0 v p) (hm : C.M = []) : Src C L 1 v p.length (p.map byteV) := (h.part (Ps := [])).src C rfl hm L (fun _ hB => by cases hB)
/-- A piece of such a slice. -/
def inV (a : Option Addr) (c l h : Nat) : Value := match a with
  | none => .slice none 0 0
  | some ⟨b, o, sp⟩ => .slice (some ⟨b, if c = l then o else o + l, if c = l then sp else none⟩) (h - l) (c - l)
section
variable {C : Ctx} {e : Env} {L : List Blk} {dst : Option Tmp} {ty : TypeId} {pos : String} {after : Array Edge} {guard : Option (Nat × Bool)}
theorem V1.sliceOdd {t el : TypeId} {x : Operand} {lo hi : Option Operand} {a : Addr} {kz : Nat} (hT : C.P.underlying t = some (.slice el)) (hk : SizeIs C.P el kz) (hx : ev C.n e x = .slice (some a) 0 0) (hl : bd C.n e lo 0 = some 0) (hh : bd C.n e hi 0 = some 0) : V1 C ⟨dst, .slice t x lo hi none, ty, pos, after, guard⟩ e L (.slice (some a) 0 0) := 
  V1.run (s := Instr.sliceAt t (ev C.n e x) (lo.map (ev C.n e)) (hi.map (ev C.n e)) none) rfl (fun w _ => by
    rw [hx]
    unfold Instr.sliceAt
    rw [run_bind (run_underlying hT w)]
    show (Instr.slice t (.slice (some a) 0 0) _ _ none).run C.P w = _
    unfold Instr.slice
    rw [run_bind (run_underlying hT w)]
    show (do let (l, h, m) ← Instr.sliceBounds true 0 0 _ _ none; let size ← sizeOf el; pure (Value.slice (if m = l then some a else (some a : Option Addr).map (·.add (l * size))) (h - l) (m - l)) : Sem Value).run C.P w = _
    rw [run_bind (run_sliceBounds hl hh (by omega) (by omega) (by simp) w)]
    simp only
    rw [run_bind (run_sizeOf hk w)]
    simp [pure])
theorem V1.sliceIn {t el : TypeId} {x : Operand} {lo hi : Option Operand} {w0 : World} {a : Option Addr} {n c : Nat} {p : List UInt8} (hT : C.P.underlying t = some (.slice el)) (hk : SizeIs C.P el 1) (hs : InR w0 (.slice a n c) p) (hx : ev C.n e x = .slice a n c) (l h : Nat)
    (hl : bd C.n e lo 0 = some (l : Int)) (hh : bd C.n e hi n = some (h : Int)) (h1 : l ≤ h) (h2 : h ≤ p.length) : V1 C ⟨dst, .slice t x lo hi none, ty, pos, after, guard⟩ e L (inV a c l h) := by
  rcases hs with hs | ⟨rfl, a', h0⟩
  · rcases hs with ⟨h0, h3, h4⟩ | ⟨b, o, c', h0, hle, hlen, hc⟩
    · cases h0
      obtain rfl : h = 0 := by omega
      obtain rfl : l = 0 := by omega
      exact V1.sliceNil hT hk hx hl hh
    · cases h0
      have := V1.sliceSl (dst := dst) (ty := ty) (pos := pos) (after := after) (guard := guard) (L := L) hT hk hx hl hh (by omega) (by omega) (by omega)
      simpa [inV] using this
  · cases h0
    have hz : h = 0 := by simpa using h2
    subst hz
    obtain rfl : l = 0 := by omega
    obtain ⟨b, o, sp⟩ := a'
    exact V1.sliceOdd hT hk hx hl hh
end
theorem inV_is {w0 : World} {a : Option Addr} {n c : Nat} {p : List UInt8} (hs : InR w0 (.slice a n c) p) (l h : Nat) (h1 : l ≤ h) (h2 : h ≤ p.length) : InR w0 (inV a c l h) ((p.drop l).take (h - l)) := by
  have hlen : ((p.drop l).take (h - l)).length = h - l := by rw [List.length_take, List.length_drop]; omega
  rcases hs with hs | ⟨rfl, a', h0⟩
  · refine .inl ?_
    rcases hs with ⟨h0, h3, hv⟩ | ⟨b, o, c', h0, hle, hl2, hc⟩
    · cases h0
      have : p = [] := by simpa using hv
      subst this
      have hz : h = 0 := by simpa using h2
      subst hz
      exact .inl ⟨rfl, by simp, by simp⟩
    · cases h0
      refine .inr ⟨b, if c = l then o else o + l, c - l, ?_, by omega, by rw [List.length_map]; omega, ?_⟩
      · show Value.slice (some ⟨b, _, if c = l then none else none⟩) (h - l) (c - l) = _
        rw [hlen]; split <;> rfl
      · rw [List.map_take, List.map_drop]
        split
        · have : h - l = 0 := by omega
          rw [this, List.take_zero]
          intro i u hu; simp at hu
        · exact hc.part
  · cases h0
    have hz : h = 0 := by simpa using h2
    subst hz
    obtain rfl : l = 0 := by omega
    obtain ⟨b, o, sp⟩ := a'
    exact .inr ⟨by simp, _, rfl⟩
end Go.Proofs.YtlpkcbkflfbclaaDoor.S
