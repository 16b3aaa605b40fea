/- Numbers written as four bytes, and read. -/
import Derived.Test.YtijijaobialncaaFr1
namespace Go.Proofs.Ytijijaobialncaa.S
open Go.RowKit

set_option maxRecDepth 100000 in
theorem number_any (b : Nat) (s : Value) (out : List UInt8) (Ls : List Blk) (n : Nat) (w : World) (hn : n < 4294967296) (ho : out.length ≤ 1099511627776) (hsl : Sl s (out.map byteV) 1 Ls) : Fn P 42 [.pointer (some ⟨b, 0, none⟩), .int .u32 n] w (⟨b, 0, [s], 1⟩ :: Ls) (fun _ Y => ∃ s' Ls', Y = ⟨b, 0, [s'], 1⟩ :: Ls' ∧ Sl s' ((out ++ be32 n).map byteV) 1 Ls') := by
  refine Fn.of 24 [] Go.Proofs.Try.func42 rfl rfl rfl rfl ?_
  refine T.region ?_
  refine TL.cons rfl (V1.t (V1.move' z_B) ?_)
  refine TL.cons rfl (V1.t (V1.move' z_B) ?_)
  refine TL.cons rfl (V1.t (V1.nilCheck rfl) ?_)
  refine TL.cons rfl (V1.t (V1.fieldAddr fl_107_0 rfl) ?_)
  refine TL.cons rfl (V1.t (V1.load1 one_29 rfl (.own z_D (by rfl))) ?_)
  refine TL.cons rfl (V1.t (V1.move' z_B) ?_)
  refine TL.cons rfl (V1.t (V1.shr rfl rfl (by decide) (shr_u (m := 24) rfl)) ?_)
  refine TL.cons rfl (V1.t (V1.conv ty_27 ty_5 rfl (u8_nat _)) ?_)
  refine TL.cons rfl (V1.t (V1.move' z_B) ?_)
  refine TL.cons rfl (V1.t (V1.shr rfl rfl (by decide) (shr_u (m := 16) rfl)) ?_)
  refine TL.cons rfl (V1.t (V1.conv ty_27 ty_5 rfl (u8_nat _)) ?_)
  refine TL.cons rfl (V1.t (V1.move' z_B) ?_)
  refine TL.cons rfl (V1.t (V1.shr rfl rfl (by decide) (shr_u (m := 8) rfl)) ?_)
  refine TL.cons rfl (V1.t (V1.conv ty_27 ty_5 rfl (u8_nat _)) ?_)
  refine TL.cons rfl (V1.t (V1.move' z_B) ?_)
  refine TL.cons rfl (V1.t (V1.conv ty_27 ty_5 rfl (u8_nat _)) ?_)
  refine TL.cons rfl (T1.buildSl1 (os := [.tmp 11, .tmp 14, .tmp 17, .tmp 19]) ty_29 sz_5 zr_5 (by decide) rfl (.cons z_B (.cons z_B (.cons z_B (.cons z_B .nil)))) rfl (ones rfl) (fun b20 => ?_))
  refine TL.cons rfl (T1.append ty_29 kd_29 sz_5 by_5 zr_5 rfl (by decide) (by decide) rfl rfl hsl (.sl (RdN.whole z_D) (by rfl)) (ones rfl) (out.length + 4) (by simp) (by omega) z_C (fun s' Ls' hsl' => ?_))
  refine TL.cons rfl (V1.t (V1.nilCheck rfl) ?_)
  refine TL.cons rfl (V1.t (V1.fieldAddr fl_107_0 rfl) ?_)
  refine TL.cons rfl (T1.store1 rfl rfl sz_29 hsl'.one z_H (Nat.zero_le _) z_J ?_)
  refine TL.nil ?_
  -- the end
  exact ⟨[], ⟨b, 0, [s'], 1⟩ :: Ls', _, .nil, z_A, s', Ls', rfl, by rw [List.map_append]; exact hsl'⟩

set_option maxRecDepth 100000 in
theorem refnumber_any (n : Nat) (w : World) (hn : n < 9223372036854775808) : Fn P 56 [.int .i64 n] w [] (fun v Y => Y = [] ∧ v = .string (bstr (be32 n))) := by
  refine Fn.of 20 [.tmp 2] Go.Proofs.Try.func56 rfl rfl rfl rfl ?_
  refine T.seq ?_
  refine T.region ?_
  refine TL.cons rfl (V1.t (V1.assign' z_B) ?_)
  refine TL.nil ?_
  refine T.seq ?_
  refine T.region ?_
  refine TL.cons rfl (V1.t (V1.move' z_B) ?_)
  refine TL.cons rfl (V1.t (V1.quo rfl rfl (by decide) (quo_nat 16777216 rfl hn)) ?_)
  refine TL.cons rfl (V1.t (V1.rem rfl rfl (by decide) (rem_nat 256 rfl)) ?_)
  refine TL.cons rfl (V1.t (V1.conv ty_3 ty_5 rfl (u8_nat _)) ?_)
  refine TL.cons rfl (V1.t (V1.move' z_B) ?_)
  refine TL.cons rfl (V1.t (V1.quo rfl rfl (by decide) (quo_nat 65536 rfl hn)) ?_)
  refine TL.cons rfl (V1.t (V1.rem rfl rfl (by decide) (rem_nat 256 rfl)) ?_)
  refine TL.cons rfl (V1.t (V1.conv ty_3 ty_5 rfl (u8_nat _)) ?_)
  refine TL.cons rfl (V1.t (V1.move' z_B) ?_)
  refine TL.cons rfl (V1.t (V1.quo rfl rfl (by decide) (quo_nat 256 rfl hn)) ?_)
  refine TL.cons rfl (V1.t (V1.rem rfl rfl (by decide) (rem_nat 256 rfl)) ?_)
  refine TL.cons rfl (V1.t (V1.conv ty_3 ty_5 rfl (u8_nat _)) ?_)
  refine TL.cons rfl (V1.t (V1.move' z_B) ?_)
  refine TL.cons rfl (V1.t (V1.rem rfl rfl (by decide) (rem_nat 256 rfl)) ?_)
  refine TL.cons rfl (V1.t (V1.conv ty_3 ty_5 rfl (u8_nat _)) ?_)
  refine TL.cons rfl (T1.buildSl1 (os := [.tmp 6, .tmp 10, .tmp 14, .tmp 17]) ty_29 sz_5 zr_5 (by decide) rfl (.cons z_B (.cons z_B (.cons z_B (.cons z_B .nil)))) rfl (ones rfl) (fun b18 => ?_))
  refine TL.cons rfl (V1.t (V1.bytesToStr (l := [UInt8.ofNat (n / 16777216 % 256), UInt8.ofNat (n / 65536 % 256), UInt8.ofNat (n / 256 % 256), UInt8.ofNat (n % 256)]) ty_29 ty_5 ty_9 rfl (.sl (RdN.whole z_D) (by rfl)) (by intro b h; cases h)) ?_)
  refine TL.cons rfl (V1.t (V1.assign' z_B) ?_)
  refine TL.nil ?_
  refine T.ret ?_
  refine ⟨_, [], _, .cons (.tmp z_B) .nil, Take.nil, rfl, ?_⟩
  simp [res1, be32, ofNat_mod]

end Go.Proofs.Ytijijaobialncaa.S
