/- Frames as lists of bytes: plain definitions and laws, with no program in sight. -/
import Derived.Test.YtfjedhmffccgnaaGreatDoorOps3
namespace Go.Proofs.YtfjedhmffccgnaaGreatDoor.S
def be32 (n : Nat) : List UInt8 := [UInt8.ofNat (n / 16777216), UInt8.ofNat (n / 65536), UInt8.ofNat (n / 256), UInt8.ofNat n]
def shpF (k : Int) : Option (Nat × Nat × Nat × Bool) :=
  if k = 1 then some (4, 2, 1, false) else if k = 2 then some (3, 2, 0, true) else if k = 3 then some (1, 2, 0, true) else if k = 4 then some (3, 2, 0, false)
  else if k = 5 then some (1, 2, 1, true) else if k = 6 then some (3, 3, 1, true) else if k = 7 then some (1, 1, 0, true) else none
def encF (kind : Int) (keys : List (List UInt8)) (nums : List Nat) (sigs : List (List UInt8)) (data : List UInt8) : Except Int (List UInt8) :=
  match shpF kind with
  | none => .error 110
  | some (a, b, c, d) =>
    if keys.length ≠ a ∨ nums.length ≠ b ∨ sigs.length ≠ c ∨ (d = false ∧ 0 < data.length) then .error 110
    else if 16384 < data.length then .error 2
    else .ok (UInt8.ofNat kind.toNat :: (keys.flatten ++ (nums.flatMap be32 ++ (sigs.flatten ++ (if d then be32 data.length ++ data else [])))))
theorem shp_range {k : Int} {x : Nat × Nat × Nat × Bool} (h : shpF k = some x) : 1 ≤ k ∧ k ≤ 7 := by
 unfold shpF at h
 repeat (split at h; · omega)
 cases h
section
variable {k : UInt8} {tl l : List UInt8} {a b c n : Nat} (hl : l = k :: tl)
include hl
end
end Go.Proofs.YtfjedhmffccgnaaGreatDoor.S
