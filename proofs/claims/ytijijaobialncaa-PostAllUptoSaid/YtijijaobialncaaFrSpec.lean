/- Frames as lists of bytes: plain definitions and laws, with no program in sight. -/
import Derived.Test.YtijijaobialncaaOps3
namespace Go.Proofs.Ytijijaobialncaa.S
/-- Four bytes of a number. -/
def be32 (n : Nat) : List UInt8 := [UInt8.ofNat (n / 16777216), UInt8.ofNat (n / 65536), UInt8.ofNat (n / 256), UInt8.ofNat n]

/-- How many keys, numbers and signatures a kind of frame has, and whether it has data. -/
def shp (k : Int) : Option (Nat × Nat × Nat × Bool) :=
  if k = 1 then some (4, 2, 1, false) else if k = 2 then some (3, 2, 0, true) else if k = 3 then some (1, 2, 0, true) else if k = 4 then some (3, 2, 0, false)
  else if k = 5 then some (1, 2, 1, true) else if k = 6 then some (3, 3, 1, true) else if k = 7 then some (1, 1, 0, true) else none

/-- A frame's bytes, or the error's number. -/
def encF (kind : Int) (keys : List (List UInt8)) (nums : List Nat) (sigs : List (List UInt8)) (data : List UInt8) : Except Int (List UInt8) :=
  match shp kind with
  | none => .error 110
  | some (a, b, c, d) =>
    if keys.length ≠ a ∨ nums.length ≠ b ∨ sigs.length ≠ c ∨ (d = false ∧ 0 < data.length) then .error 110
    else if 16384 < data.length then .error 2
    else .ok (UInt8.ofNat kind.toNat :: (keys.flatten ++ (nums.flatMap be32 ++ (sigs.flatten ++ (if d then be32 data.length ++ data else [])))))

theorem shp_range {k : Int} {x : Nat × Nat × Nat × Bool} (h : shp k = some x) : 1 ≤ k ∧ k ≤ 7 := by
  unfold shp at h
  repeat (split at h; · omega)
  cases h

/-- The number of four bytes at a place. -/
def rd32 (l : List UInt8) (i : Nat) : Nat := (l.getD i 0).toNat * 16777216 + (l.getD (i + 1) 0).toNat * 65536 + (l.getD (i + 2) 0).toNat * 256 + (l.getD (i + 3) 0).toNat

/-- So many pieces of k bytes. -/
def chunks (k n : Nat) (l : List UInt8) : List (List UInt8) := (List.range n).map fun i => (l.drop (k * i)).take k
def nums32 (n : Nat) (l : List UInt8) : List Nat := (List.range n).map fun i => rd32 (l.drop (4 * i)) 0
theorem chunks_succ (k n : Nat) (l : List UInt8) : chunks k (n + 1) l = chunks k n l ++ [(l.drop (k * n)).take k] := by simp [chunks, List.range_succ]
theorem nums32_succ (n : Nat) (l : List UInt8) : nums32 (n + 1) l = nums32 n l ++ [rd32 (l.drop (4 * n)) 0] := by simp [nums32, List.range_succ]

/-- The frame of some bytes, or the error's number. -/
def decF (l : List UInt8) : Except Int (Int × List (List UInt8) × List Nat × List (List UInt8) × List UInt8) :=
  match l with
  | [] => .error 111
  | k :: _ =>
    match shp (k.toNat : Nat) with
    | none => .error 110
    | some (a, b, c, d) =>
      if l.length < 1 + 32 * a + 4 * b + 64 * c + (if d then 4 else 0) then .error 111
      else if 16384 < (if d then rd32 (l.drop (1 + 32 * a + 4 * b + 64 * c)) 0 else 0) then .error 2
      else if l.length < 1 + 32 * a + 4 * b + 64 * c + (if d then 4 else 0) + (if d then rd32 (l.drop (1 + 32 * a + 4 * b + 64 * c)) 0 else 0) then .error 111
      else if 1 + 32 * a + 4 * b + 64 * c + (if d then 4 else 0) + (if d then rd32 (l.drop (1 + 32 * a + 4 * b + 64 * c)) 0 else 0) < l.length then .error 112
      else .ok ((k.toNat : Nat), chunks 32 a (l.drop 1), nums32 b (l.drop (1 + 32 * a)), chunks 64 c (l.drop (1 + 32 * a + 4 * b)), if d then l.drop (1 + 32 * a + 4 * b + 64 * c + 4) else [])

theorem decF_none {k : UInt8} {tl : List UInt8} (h : shp (k.toNat : Nat) = none) : decF (k :: tl) = .error 110 := by unfold decF; simp only [h]
section
variable {k : UInt8} {tl l : List UInt8} {a b c n : Nat} (hl : l = k :: tl)
include hl
theorem decF_data (h : shp (k.toNat : Nat) = some (a, b, c, true)) (hn : n = rd32 (l.drop (1 + 32 * a + 4 * b + 64 * c)) 0) : decF l =
    (if l.length < 1 + 32 * a + 4 * b + 64 * c + 4 then .error 111 else if 16384 < n then .error 2 else if l.length < 1 + 32 * a + 4 * b + 64 * c + 4 + n then .error 111 else if 1 + 32 * a + 4 * b + 64 * c + 4 + n < l.length then .error 112
     else .ok ((k.toNat : Nat), chunks 32 a (l.drop 1), nums32 b (l.drop (1 + 32 * a)), chunks 64 c (l.drop (1 + 32 * a + 4 * b)), l.drop (1 + 32 * a + 4 * b + 64 * c + 4))) := by
  subst hn; subst hl; unfold decF; simp only [h, if_true]
theorem decF_bare (h : shp (k.toNat : Nat) = some (a, b, c, false)) : decF l =
    (if l.length < 1 + 32 * a + 4 * b + 64 * c then .error 111 else if 1 + 32 * a + 4 * b + 64 * c < l.length then .error 112
     else .ok ((k.toNat : Nat), chunks 32 a (l.drop 1), nums32 b (l.drop (1 + 32 * a)), chunks 64 c (l.drop (1 + 32 * a + 4 * b)), [])) := by
  subst hl; unfold decF
  simp only [h, Bool.false_eq_true, if_false, Nat.add_zero]
  split
  · rfl
  · rename_i hlt
    rw [if_neg (by omega)]
end

end Go.Proofs.Ytijijaobialncaa.S
