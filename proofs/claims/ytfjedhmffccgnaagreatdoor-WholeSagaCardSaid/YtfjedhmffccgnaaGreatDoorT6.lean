/- A term of a name. -/
import Derived.Test.YtfjedhmffccgnaaGreatDoorTypes
import Derived.Test.YtfjedhmffccgnaaGreatDoorTmMem
namespace Go.Proofs.YtfjedhmffccgnaaGreatDoor.S
set_option maxRecDepth 100000
open Go.RowKit
theorem Of_any (w0 : World) (Ps : List Blk) (s : List UInt8) : FnV P 34 [.string (bstr s)] w0 Ps (fun v => v = .agg [.int .i64 1, .string (bstr s), .slice none 0 0].toArray) := by
 refine FnV.of 5 [.cell 2 32] Go.Proofs.Tryz.func34 rfl rfl rfl rfl (fun G hG => ?_)
 refine zs ?_
 refine zc (T1.allocN 3 zr_32 rfl (fun b2 => zs ?_))
 refine z0 (V1.buildF pl_32 zr_32 (.one rfl z_C rfl (.one rfl z_C rfl .nil)) z_I) ?_
 refine zc (T1.storeN rfl rfl sz_32 (ones rfl) z_H zr zr ?_)
 refine zs ?_
 exact ⟨_, G, _, .cons (.cellN z_C one_32 sz_32 (RdN.whole z_A) rfl) .nil, z_B, rfl, rfl⟩
theorem isNaN_any (a : Int) (w : World) : Fn P 120 [.int .i64 a] w [] (fun v Y => Y = [] ∧ v = .bool false) := by
 refine Fn.of 6 [.tmp 2] Go.Proofs.Tryz.func120 rfl rfl rfl rfl ?_
 refine zs ?_
 refine zq (V1.neI (r := false) rfl rfl (by simp)) ?_
 exact ⟨_, [], _, .cons (.tmp z_C) .nil, Take.nil, rfl, rfl⟩
end Go.Proofs.YtfjedhmffccgnaaGreatDoor.S
