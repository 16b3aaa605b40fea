/- Bytes that nobody sent. -/
import Derived.Test.YtijijaobialncaaO4
namespace Go.Proofs.Ytijijaobialncaa.S
open Go.RowKit

theorem PrO.put {pb : Nat} {d : Pr} {l : List UInt8} {ov sv fv v : Value} {cs vs : List Value} {Xo Xr Xc Xb Xl Y : List Blk} (ho : OffO ov d.offer Xo) (hs : Sl sv cs 5 Xr) (hc : FrmsO cs d.once Xc) (hb : Sl fv (vs ++ [v]) 1 Xb) (hl : BytO vs d.box Xl) (hv : Sl v (l.map byteV) 1 Y) :
    PrO pb (d.put l) (⟨pb, 0, [ov, sv, fv, .int .i64 ((d.bytes + l.length : Nat) : Int)], 4⟩ :: (Xo ++ (Xr ++ (Xc ++ (Xb ++ (Xl ++ Y)))))) :=
  ⟨ov, sv, fv, cs, vs ++ [v], Xo, Xr, Xc, Xb, Xl ++ Y, ho, hs, hc, hb, hl.snoc hv, by
    have : (d.put l).bytes = d.bytes + l.length := by unfold Pr.bytes Pr.put; simp
    rw [this]⟩
end Go.Proofs.Ytijijaobialncaa.S
