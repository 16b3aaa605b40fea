/- Raw bytes are read as the document says. -/
import Derived.Test.YtijijaobialncaaFr4
import Derived.Test.YtijijaobialncaaFrA
import Derived.Test.YtijijaobialncaaFrB
namespace Go.Proofs.Ytijijaobialncaa.S
open Go.RowKit

/-- A frame of one's own memory. -/
theorem FrIs.own {C : Ctx} {L G1 G2 G3 G4 Yk Yn Ys Yd : List Blk} {w : World} {kind : Int} {keys : List (List UInt8)} {nums : List Nat} {sigs : List (List UInt8)} {data : List UInt8} {sk sn ss sd : Value} (hs : St C.w0 C.M L w)
    (h : (∀ x ∈ keys, x.length = 32) ∧ (∀ x ∈ nums, x < 4294967296) ∧ (∀ x ∈ sigs, x.length = 64) ∧ (keys.length < 9223372036854775808 ∧ nums.length < 9223372036854775808 ∧ sigs.length < 9223372036854775808 ∧ data.length < 9223372036854775808))
    (h1 : Sl sk (keys.flatten.map byteV) 32 Yk) (p1 : PickS L Yk G1) (h2 : Sl sn (nums.map u32V) 1 Yn) (p2 : PickS L Yn G2) (h3 : Sl ss (sigs.flatten.map byteV) 64 Ys) (p3 : PickS L Ys G3) (h4 : Sl sd (data.map byteV) 1 Yd) (p4 : PickS L Yd G4) :
    FrIs w (.agg (List.toArray [.int .i64 kind, sk, sn, ss, sd])) kind keys nums sigs data := by
  obtain ⟨e1, e2, e3, e4⟩ := h
  obtain ⟨n1, l1, r1⟩ := h1.slr p1 hs
  obtain ⟨n2, l2, r2⟩ := h2.slr p2 hs
  obtain ⟨n3, l3, r3⟩ := h3.slr p3 hs
  obtain ⟨n4, l4, r4⟩ := h4.slr p4 hs
  rw [List.length_map, flat_len keys e1] at l1
  rw [List.length_map] at l2 l4
  rw [List.length_map, flat_len sigs e3] at l3
  obtain rfl : n1 = keys.length := by omega
  obtain rfl : n2 = nums.length := by omega
  obtain rfl : n3 = sigs.length := by omega
  obtain rfl : n4 = data.length := by omega
  exact ⟨⟨sk, sn, ss, sd, rfl, r1, r2, r3, r4⟩, e1, e2, e3, e4⟩
end Go.Proofs.Ytijijaobialncaa.S
