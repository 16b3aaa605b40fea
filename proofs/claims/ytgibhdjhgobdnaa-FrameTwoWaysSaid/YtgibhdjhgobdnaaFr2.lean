/- Numbers written as four bytes, and read. -/
import Derived.Test.YtgibhdjhgobdnaaFr1
namespace Go.Proofs.Ytgibhdjhgobdnaa.S
open Go.RowKit

theorem number_any (b : Nat) (s : Value) (out : List UInt8) (Ls : List Blk) (n : Nat) (w : World) (hn : n < 4294967296) (ho : out.length ≤ 1099511627776) (hsl : Sl s (out.map byteV) 1 Ls) : Fn P 18 [.pointer (some ⟨b, 0, none⟩), .int .u32 n] w (⟨b, 0, [s], 1⟩ :: Ls) (fun _ Y => ∃ s' Ls', Y = ⟨b, 0, [s'], 1⟩ :: Ls' ∧ Sl s' ((out ++ be32 n).map byteV) 1 Ls') := by
  refine Fn.of 24 [] Go.Proofs.Try.func18 rfl rfl rfl rfl ?_
  refine T.region ?_
  refine TL.cons rfl (V1.t (V1.move' (by (conv => lhs; whnf) <;> rfl)) ?_)
  refine TL.cons rfl (V1.t (V1.move' (by (conv => lhs; whnf) <;> rfl)) ?_)
  refine TL.cons rfl (V1.t (V1.nilCheck rfl) ?_)
  refine TL.cons rfl (V1.t (V1.fieldAddr fl_57_0 rfl) ?_)
  refine TL.cons rfl (V1.t (V1.load1 one_25 rfl (.own (by repeat (first | exact Find.here | apply Find.there | apply Find.far)) (by rfl))) ?_)
  refine TL.cons rfl (V1.t (V1.move' (by (conv => lhs; whnf) <;> rfl)) ?_)
  refine TL.cons rfl (V1.t (V1.shr rfl rfl (by decide) (shr_u (m := 24) rfl)) ?_)
  refine TL.cons rfl (V1.t (V1.conv ty_55 ty_5 rfl (u8_nat _)) ?_)
  refine TL.cons rfl (V1.t (V1.move' (by (conv => lhs; whnf) <;> rfl)) ?_)
  refine TL.cons rfl (V1.t (V1.shr rfl rfl (by decide) (shr_u (m := 16) rfl)) ?_)
  refine TL.cons rfl (V1.t (V1.conv ty_55 ty_5 rfl (u8_nat _)) ?_)
  refine TL.cons rfl (V1.t (V1.move' (by (conv => lhs; whnf) <;> rfl)) ?_)
  refine TL.cons rfl (V1.t (V1.shr rfl rfl (by decide) (shr_u (m := 8) rfl)) ?_)
  refine TL.cons rfl (V1.t (V1.conv ty_55 ty_5 rfl (u8_nat _)) ?_)
  refine TL.cons rfl (V1.t (V1.move' (by (conv => lhs; whnf) <;> rfl)) ?_)
  refine TL.cons rfl (V1.t (V1.conv ty_55 ty_5 rfl (u8_nat _)) ?_)
  refine TL.cons rfl (T1.buildSl1 (os := [.tmp 11, .tmp 14, .tmp 17, .tmp 19]) ty_25 sz_5 zr_5 (by decide) rfl (.cons (by (conv => lhs; whnf) <;> rfl) (.cons (by (conv => lhs; whnf) <;> rfl) (.cons (by (conv => lhs; whnf) <;> rfl) (.cons (by (conv => lhs; whnf) <;> rfl) .nil)))) rfl (ones rfl) (fun b20 => ?_))
  refine TL.cons rfl (T1.append ty_25 kd_25 sz_5 by_5 zr_5 rfl (by decide) (by decide) rfl rfl hsl (.sl (RdN.whole (by repeat (first | exact Find.here | apply Find.there | apply Find.far))) (by rfl)) (ones rfl) (out.length + 4) (by simp) (by omega) (by repeat (first | exact PickS.last | exact PickS.one | exact PickS.here | exact PickS.nil | apply PickS.there | apply PickS.far)) (fun s' Ls' hsl' => ?_))
  refine TL.cons rfl (V1.t (V1.nilCheck rfl) ?_)
  refine TL.cons rfl (V1.t (V1.fieldAddr fl_57_0 rfl) ?_)
  refine TL.cons rfl (T1.store1 rfl rfl sz_25 hsl'.one (by repeat (first | exact Sub.one | apply Sub.there | apply Sub.far)) (Nat.zero_le _) (by repeat (first | exact SetAt.here | apply SetAt.there)) ?_)
  refine TL.nil ?_
  -- the end
  exact ⟨[], ⟨b, 0, [s'], 1⟩ :: Ls', _, .nil, (by repeat (first | exact Take.nil | apply Take.one (by repeat (first | exact Pick.here | apply Pick.there | apply Pick.far)) | apply Take.seg (by repeat (first | exact PickS.last | exact PickS.one | exact PickS.here | exact PickS.nil | apply PickS.there | apply PickS.far)) | exact Take.last (by repeat (first | exact PickS.last | exact PickS.one | exact PickS.here | exact PickS.nil | apply PickS.there | apply PickS.far)))), s', Ls', rfl, by rw [List.map_append]; exact hsl'⟩

theorem refnumber_any (n : Nat) (w : World) (hn : n < 9223372036854775808) : Fn P 19 [.int .i64 n] w [] (fun v Y => Y = [] ∧ v = .string (bstr (be32 n))) := by
  refine Fn.of 20 [.tmp 2] Go.Proofs.Try.func19 rfl rfl rfl rfl ?_
  refine T.seq ?_
  refine T.region ?_
  refine TL.cons rfl (V1.t (V1.assign' (by (conv => lhs; whnf) <;> rfl)) ?_)
  refine TL.nil ?_
  refine T.seq ?_
  refine T.region ?_
  refine TL.cons rfl (V1.t (V1.move' (by (conv => lhs; whnf) <;> rfl)) ?_)
  refine TL.cons rfl (V1.t (V1.quo rfl rfl (by decide) (quo_nat 16777216 rfl hn)) ?_)
  refine TL.cons rfl (V1.t (V1.rem rfl rfl (by decide) (rem_nat 256 rfl)) ?_)
  refine TL.cons rfl (V1.t (V1.conv ty_3 ty_5 rfl (u8_nat _)) ?_)
  refine TL.cons rfl (V1.t (V1.move' (by (conv => lhs; whnf) <;> rfl)) ?_)
  refine TL.cons rfl (V1.t (V1.quo rfl rfl (by decide) (quo_nat 65536 rfl hn)) ?_)
  refine TL.cons rfl (V1.t (V1.rem rfl rfl (by decide) (rem_nat 256 rfl)) ?_)
  refine TL.cons rfl (V1.t (V1.conv ty_3 ty_5 rfl (u8_nat _)) ?_)
  refine TL.cons rfl (V1.t (V1.move' (by (conv => lhs; whnf) <;> rfl)) ?_)
  refine TL.cons rfl (V1.t (V1.quo rfl rfl (by decide) (quo_nat 256 rfl hn)) ?_)
  refine TL.cons rfl (V1.t (V1.rem rfl rfl (by decide) (rem_nat 256 rfl)) ?_)
  refine TL.cons rfl (V1.t (V1.conv ty_3 ty_5 rfl (u8_nat _)) ?_)
  refine TL.cons rfl (V1.t (V1.move' (by (conv => lhs; whnf) <;> rfl)) ?_)
  refine TL.cons rfl (V1.t (V1.rem rfl rfl (by decide) (rem_nat 256 rfl)) ?_)
  refine TL.cons rfl (V1.t (V1.conv ty_3 ty_5 rfl (u8_nat _)) ?_)
  refine TL.cons rfl (T1.buildSl1 (os := [.tmp 6, .tmp 10, .tmp 14, .tmp 17]) ty_25 sz_5 zr_5 (by decide) rfl (.cons (by (conv => lhs; whnf) <;> rfl) (.cons (by (conv => lhs; whnf) <;> rfl) (.cons (by (conv => lhs; whnf) <;> rfl) (.cons (by (conv => lhs; whnf) <;> rfl) .nil)))) rfl (ones rfl) (fun b18 => ?_))
  refine TL.cons rfl (V1.t (V1.bytesToStr (l := [UInt8.ofNat (n / 16777216 % 256), UInt8.ofNat (n / 65536 % 256), UInt8.ofNat (n / 256 % 256), UInt8.ofNat (n % 256)]) ty_25 ty_5 ty_9 rfl (.sl (RdN.whole (by repeat (first | exact Find.here | apply Find.there | apply Find.far))) (by rfl)) (by intro b h; cases h)) ?_)
  refine TL.cons rfl (V1.t (V1.assign' (by (conv => lhs; whnf) <;> rfl)) ?_)
  refine TL.nil ?_
  refine T.ret ?_
  refine ⟨_, [], _, .cons (.tmp (by (conv => lhs; whnf) <;> rfl)) .nil, Take.nil, rfl, ?_⟩
  simp [res1, be32, ofNat_mod]

theorem refread_any (l : List UInt8) (i : Nat) (w : World) (hi : i + 4 ≤ l.length) (hl : l.length < 9223372036854775808) : Fn P 23 [.string (bstr l), .int .i64 i] w [] (fun v Y => Y = [] ∧ v = .int .i64 (rd32 l i)) := by
  have u0 := u8_lt (l.getD (i + 0) 0)
  have u1 := u8_lt (l.getD (i + 1) 0)
  have u2 := u8_lt (l.getD (i + 2) 0)
  have u3 := u8_lt (l.getD (i + 3) 0)
  refine Fn.of 30 [.tmp 4] Go.Proofs.Try.func23 rfl rfl rfl rfl ?_
  refine T.seq ?_
  refine T.region ?_
  refine TL.cons rfl (V1.t (V1.assign' (by (conv => lhs; whnf) <;> rfl)) ?_)
  refine TL.nil ?_
  refine T.seq ?_
  refine T.drawR mixed ?_
  refine TD.takeR 0 rfl (by decide +kernel) (by decide +kernel) (by decide +kernel) rfl (fun _ _ _ h => h) (V1.move' (by (conv => lhs; whnf) <;> rfl)) ?_
  refine TD.takeR 1 rfl (by decide +kernel) (by decide +kernel) (by decide +kernel) rfl (fun _ _ _ h => h) (V1.move' (by (conv => lhs; whnf) <;> rfl)) ?_
  refine TD.takeR 2 rfl (by decide +kernel) (by decide +kernel) (by decide +kernel) rfl (fun _ _ _ h => h) (V1.indexStr ty_9 rfl rfl (by omega) (bstr_get (getD_some (i := i + 0) (by omega)))) ?_
  refine TD.takeR 3 rfl (by decide +kernel) (by decide +kernel) (by decide +kernel) rfl (fun _ _ _ h => h) (V1.conv ty_5 ty_3 rfl (wrap_i64 _ (by omega) (by omega))) ?_
  refine TD.takeR 4 rfl (by decide +kernel) (by decide +kernel) (by decide +kernel) rfl (fun _ _ _ h => h) (V1.mul rfl rfl (wrap_i64 _ (by omega) (by omega))) ?_
  refine TD.takeR 5 rfl (by decide +kernel) (by decide +kernel) (by decide +kernel) rfl (fun _ _ _ h => h) (V1.move' (by (conv => lhs; whnf) <;> rfl)) ?_
  refine TD.takeR 6 rfl (by decide +kernel) (by decide +kernel) (by decide +kernel) rfl (fun _ _ _ h => h) (V1.move' (by (conv => lhs; whnf) <;> rfl)) ?_
  refine TD.takeR 7 rfl (by decide +kernel) (by decide +kernel) (by decide +kernel) rfl (fun _ _ _ h => h) (V1.add rfl rfl (wrap_i64 _ (by omega) (by omega))) ?_
  refine TD.takeR 8 rfl (by decide +kernel) (by decide +kernel) (by decide +kernel) rfl (fun _ _ _ h => h) (V1.indexStr ty_9 rfl rfl (by omega) (bstr_get (getD_some (i := i + 1) (by omega)))) ?_
  refine TD.takeR 9 rfl (by decide +kernel) (by decide +kernel) (by decide +kernel) rfl (fun _ _ _ h => h) (V1.conv ty_5 ty_3 rfl (wrap_i64 _ (by omega) (by omega))) ?_
  refine TD.takeR 10 rfl (by decide +kernel) (by decide +kernel) (by decide +kernel) rfl (fun _ _ _ h => h) (V1.mul rfl rfl (wrap_i64 _ (by omega) (by omega))) ?_
  refine TD.takeR 11 rfl (by decide +kernel) (by decide +kernel) (by decide +kernel) rfl (fun _ _ _ h => h) (V1.add rfl rfl (wrap_i64 _ (by omega) (by omega))) ?_
  refine TD.takeR 12 rfl (by decide +kernel) (by decide +kernel) (by decide +kernel) rfl (fun _ _ _ h => h) (V1.move' (by (conv => lhs; whnf) <;> rfl)) ?_
  refine TD.takeR 13 rfl (by decide +kernel) (by decide +kernel) (by decide +kernel) rfl (fun _ _ _ h => h) (V1.move' (by (conv => lhs; whnf) <;> rfl)) ?_
  refine TD.takeR 14 rfl (by decide +kernel) (by decide +kernel) (by decide +kernel) rfl (fun _ _ _ h => h) (V1.add rfl rfl (wrap_i64 _ (by omega) (by omega))) ?_
  refine TD.takeR 15 rfl (by decide +kernel) (by decide +kernel) (by decide +kernel) rfl (fun _ _ _ h => h) (V1.indexStr ty_9 rfl rfl (by omega) (bstr_get (getD_some (i := i + 2) (by omega)))) ?_
  refine TD.takeR 16 rfl (by decide +kernel) (by decide +kernel) (by decide +kernel) rfl (fun _ _ _ h => h) (V1.conv ty_5 ty_3 rfl (wrap_i64 _ (by omega) (by omega))) ?_
  refine TD.takeR 17 rfl (by decide +kernel) (by decide +kernel) (by decide +kernel) rfl (fun _ _ _ h => h) (V1.mul rfl rfl (wrap_i64 _ (by omega) (by omega))) ?_
  refine TD.takeR 18 rfl (by decide +kernel) (by decide +kernel) (by decide +kernel) rfl (fun _ _ _ h => h) (V1.add rfl rfl (wrap_i64 _ (by omega) (by omega))) ?_
  refine TD.takeR 19 rfl (by decide +kernel) (by decide +kernel) (by decide +kernel) rfl (fun _ _ _ h => h) (V1.move' (by (conv => lhs; whnf) <;> rfl)) ?_
  refine TD.takeR 20 rfl (by decide +kernel) (by decide +kernel) (by decide +kernel) rfl (fun _ _ _ h => h) (V1.move' (by (conv => lhs; whnf) <;> rfl)) ?_
  refine TD.takeR 21 rfl (by decide +kernel) (by decide +kernel) (by decide +kernel) rfl (fun _ _ _ h => h) (V1.add rfl rfl (wrap_i64 _ (by omega) (by omega))) ?_
  refine TD.takeR 22 rfl (by decide +kernel) (by decide +kernel) (by decide +kernel) rfl (fun _ _ _ h => h) (V1.indexStr ty_9 rfl rfl (by omega) (bstr_get (getD_some (i := i + 3) (by omega)))) ?_
  refine TD.takeR 23 rfl (by decide +kernel) (by decide +kernel) (by decide +kernel) rfl (fun _ _ _ h => h) (V1.conv ty_5 ty_3 rfl (wrap_i64 _ (by omega) (by omega))) ?_
  refine TD.takeR 24 rfl (by decide +kernel) (by decide +kernel) (by decide +kernel) rfl (fun _ _ _ h => h) (V1.add rfl rfl (wrap_i64 _ (by omega) (by omega))) ?_
  refine TD.takeR 25 rfl (by decide +kernel) (by decide +kernel) (by decide +kernel) rfl (fun _ _ _ h => h) (V1.assign' (by (conv => lhs; whnf) <;> rfl)) ?_
  refine TD.done (by decide +kernel) ?_
  refine T.ret ?_
  refine ⟨_, [], _, .cons (.tmp (by (conv => lhs; whnf) <;> rfl)) .nil, Take.nil, rfl, ?_⟩
  simp [res1, rd32]

end Go.Proofs.Ytgibhdjhgobdnaa.S
