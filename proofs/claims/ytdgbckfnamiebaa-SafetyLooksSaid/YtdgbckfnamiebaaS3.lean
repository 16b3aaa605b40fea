/- SHA-256: a hash that is being made, and the sums. -/
import Derived.Test.YtdgbckfnamiebaaS2
namespace Go.Proofs.Ytdgbckfnamiebaa.S
open Go.RowKit

open Sh
/-- A hash that is being made: l came in. -/
def HB {w : Nat} (Tp : Sp w) (wv : BitVec w → Value) (bh : Nat) (l : List UInt8) (X : List Blk) : Prop := ∃ s Lr, X = ⟨bh, 0, s :: w64 (BitVec.ofNat 64 l.length) :: (stL (absorb Tp Tp.init l).1).map wv, 10⟩ :: Lr ∧ Sl s ((absorb Tp Tp.init l).2.map byteV) 1 Lr
theorem cnt_add {l p : List UInt8} : BitVec.ofNat 64 l.length + BitVec.ofInt 64 (p.length : Int) = BitVec.ofNat 64 (l ++ p).length := by
  rw [BitVec.ofInt_natCast, List.length_append, ← BitVec.ofNat_add]
theorem take_flat {ps : List (List UInt8)} {k : Nat} {p : List UInt8} (h : ps[k]? = some p) : (ps.take (k + 1)).flatten = (ps.take k).flatten ++ p := by
  rw [List.take_add_one, h]; simp
theorem fill_end {α : Type} {f : α → Value} {WW : List α} {z : Value} {m : Nat} (h : WW.length = m) : (WW.take m).map f ++ List.replicate (m - m) z = WW.map f := by
  rw [List.take_of_length_le (by omega), Nat.sub_self]; simp
theorem getD_of {α : Type} {l : List α} {i : Nat} {x d : α} (h : l[i]? = some x) : l.getD i d = x := by rw [List.getD_eq_getElem?_getD, h]; rfl

theorem state32 {st : R8 32} {i : Nat} (h : i < 8) : ((stL st).map w32)[i]? = some (w32 ((stL st).getD i 0)) := by
  rw [List.getElem?_map, List.getD_eq_getElem?_getD, List.getElem?_eq_getElem (show i < (stL st).length from h)]; rfl
theorem outbyte32 {st : R8 32} {i : Nat} (h : i < 32) : ((((stL st).getD (i / 4) 0) >>> (8 * (3 - i % 4))).setWidth 8).toNat = ((outB st).getD i 0).toNat := by
  rw [getD_of (outB_get (by decide) h), byte_shift]

theorem tquoN (m k : Nat) : (m : Int).tdiv (k : Int) = ((m / k : Nat) : Int) := (Int.ofNat_tdiv m k).symm
theorem one_part {w0 : World} {Ps : List Blk} {v : Value} {p : List UInt8} (h : PartR w0 Ps v p) : ∀ (i : Nat) (sv : Value) (q : List UInt8), [v][i]? = some sv → [p][i]? = some q → PartR w0 Ps sv q := by
  intro i sv q h1 h2
  match i with
  | 0 => cases h1; cases h2; exact h
  | i + 1 => simp at h1
theorem one_len {p : List UInt8} {N : Nat} (h : p.length ≤ N) : ∀ q ∈ [p], q.length ≤ N := by
  intro q hq; obtain rfl := List.mem_singleton.1 hq; exact h
theorem pad_length (w n : Nat) : (pad w n).length = 1 + zmax w n + w / 4 := by rw [← padTo_pad, padTo_len (Nat.le_refl _)]

theorem sha_len {w : Nat} (Tp : Sp w) (l : List UInt8) : (sha Tp l).length = 8 * (w / 8) := outB_len _

end Go.Proofs.Ytdgbckfnamiebaa.S
