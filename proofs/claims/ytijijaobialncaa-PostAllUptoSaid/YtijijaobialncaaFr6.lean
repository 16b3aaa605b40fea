/- The law that frames are written as the document says. -/
import Derived.Test.YtijijaobialncaaFr3
import Derived.Test.YtijijaobialncaaFr5
namespace Go.Proofs.Ytijijaobialncaa.S
open Go.RowKit

/-- A frame that came in, or that lies in memory. -/
structure FrIs (w : World) (v : Value) (kind : Int) (keys : List (List UInt8)) (nums : List Nat) (sigs : List (List UInt8)) (data : List UInt8) : Prop where
  at_ : ∃ vk vn vs vd, v = .agg (List.toArray [.int .i64 kind, vk, vn, vs, vd]) ∧ SlR w vk 32 keys.length (keys.flatten.map byteV) ∧ SlR w vn 1 nums.length (nums.map u32V) ∧ SlR w vs 64 sigs.length (sigs.flatten.map byteV) ∧ SlR w vd 1 data.length (data.map byteV)
  hkeys : ∀ x ∈ keys, x.length = 32
  hnums : ∀ x ∈ nums, x < 4294967296
  hsigs : ∀ x ∈ sigs, x.length = 64
  hlen : keys.length < 9223372036854775808 ∧ nums.length < 9223372036854775808 ∧ sigs.length < 9223372036854775808 ∧ data.length < 9223372036854775808
section
variable {w : World} {v : Value} {kind : Int} {keys : List (List UInt8)} {nums : List Nat} {sigs : List (List UInt8)} {data : List UInt8}
end
end Go.Proofs.Ytijijaobialncaa.S
