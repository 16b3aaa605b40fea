/- A row of few numbers put in order. -/
import Derived.Test.YtijijaobialncaaOps9
import Derived.Test.YtijijaobialncaaTypes
namespace Go.Proofs.Ytijijaobialncaa.S
open Go.RowKit

theorem ib_rd {C : Ctx} {L : List Blk} {b off size k : Nat} {cs : List Value} {v : Value} (hf : Find L ⟨b, off, cs, size⟩) (h : cs[k]? = some v) : Rd C L ⟨b, off + k * 1, none⟩ v := by
  rw [Nat.mul_one]
  exact RdN.at0 hf k v h

theorem take_nat {ns : List Nat} {i n : Nat} (h : ns[i]? = some n) : ns.take (i + 1) = ns.take i ++ [n] := by rw [List.take_add_one, h]; rfl
/-! ### The sort of few -/
set_option maxRecDepth 100000 in
theorem isNaN_any (a : Int) (w : World) : Fn P 76 [.int .u32 a] w [] (fun v Y => Y = [] ∧ v = .bool false) := by
  refine Fn.of 6 [.tmp 2] Go.Proofs.Try.func76 rfl rfl rfl rfl ?_
  refine T.seq ?_
  refine T.region ?_
  refine TL.cons rfl (V1.t (V1.assign' z_B) ?_)
  refine TL.nil ?_
  refine T.seq ?_
  refine T.region ?_
  refine TL.cons rfl (V1.t (V1.move' z_B) ?_)
  refine TL.cons rfl (V1.t (V1.move' z_B) ?_)
  refine TL.cons rfl (V1.t (V1.neI (r := false) rfl rfl (decide_eq_false (fun h => h rfl))) ?_)
  refine TL.cons rfl (V1.t (V1.assign' z_B) ?_)
  refine TL.nil ?_
  refine T.ret ?_
  exact ⟨_, [], _, .cons (.tmp z_B) .nil, Take.nil, rfl, rfl⟩

set_option maxRecDepth 100000 in
theorem LessI_any (a b : Int) (w : World) : Fn P 66 [.int .u32 a, .int .u32 b] w [] (fun v Y => Y = [] ∧ v = .bool (decide (a < b))) := by
  refine Fn.of 17 [.tmp 4] Go.Proofs.Try.func66 rfl rfl rfl rfl ?_
  refine T.seq ?_
  refine T.region ?_
  refine TL.cons rfl (V1.t (V1.assign' z_B) ?_)
  refine TL.nil ?_
  refine T.seq ?_
  refine T.region ?_
  refine TL.cons rfl (V1.t (V1.move' z_B) ?_)
  refine TL.cons rfl (T1.call0 has_76 rfl (fun w hs => isNaN_any a w) (fun v_ hv => ?_))
  obtain rfl := hv
  refine TL.cons rfl (V1.t (V1.move' z_B) ?_)
  refine TL.no rfl ?_
  refine TL.no rfl ?_
  refine TL.no rfl ?_
  refine TL.cons rfl (V1.t (V1.pick rfl z_B) ?_)
  refine TL.cons rfl (V1.t (V1.move' z_B) ?_)
  refine TL.cons rfl (V1.t (V1.move' z_B) ?_)
  refine TL.cons rfl (V1.t (V1.move' z_B) ?_)
  refine TL.cons rfl (V1.t (V1.ltI (r := decide (a < b)) rfl rfl rfl) ?_)
  refine TL.cons rfl (V1.t (V1.pick rfl z_B) ?_)
  refine TL.cons rfl (V1.t (V1.assign' z_B) ?_)
  refine TL.nil ?_
  refine T.ret ?_
  exact ⟨_, [], _, .cons (.tmp z_B) .nil, Take.nil, rfl, rfl⟩

def sLen : ByteArray := ⟨((List.range 256).map fun n => if n = 0 then 0 else UInt8.ofNat (Nat.log2 n + 1)).toArray⟩
theorem sLen_at {n : Nat} (h : n < 256) : ∃ c, sLen[((n : Nat) : Int).toNat]? = some c := by
  have hs : sLen.size = 256 := by decide +kernel
  exact ⟨_, getElem?_pos sLen _ (by rw [Int.toNat_natCast, hs]; exact h)⟩

set_option maxRecDepth 100000 in
theorem Len64_any (w0 : World) (n : Nat) (hn : n < 256) : FnV P 70 [.int .u64 (n : Nat)] w0 [] (fun v => ∃ m, v = .int .i64 m) := by
  obtain ⟨c, hc⟩ := sLen_at hn
  refine FnV.of 25 [.tmp 2] Go.Proofs.Try.func70 rfl rfl rfl rfl (fun G hG => ?_)
  refine T.seq ?_
  refine T.region ?_
  refine TL.cons rfl (V1.t (V1.assign' z_B) ?_)
  refine TL.nil ?_
  refine T.seq ?_
  refine T.seq ?_
  refine T.region ?_
  refine TL.cons rfl (V1.t (V1.move' z_B) ?_)
  refine TL.cons rfl (V1.t (V1.geI (r := false) rfl rfl (decide_eq_false (by omega))) ?_)
  refine TL.nil ?_
  refine T.cond_f rfl ?_
  refine T.skip ?_
  refine T.seq ?_
  refine T.seq ?_
  refine T.region ?_
  refine TL.cons rfl (V1.t (V1.move' z_B) ?_)
  refine TL.cons rfl (V1.t (V1.geI (r := false) rfl rfl (decide_eq_false (by omega))) ?_)
  refine TL.nil ?_
  refine T.cond_f rfl ?_
  refine T.skip ?_
  refine T.seq ?_
  refine T.seq ?_
  refine T.region ?_
  refine TL.cons rfl (V1.t (V1.move' z_B) ?_)
  refine TL.cons rfl (V1.t (V1.geI (r := false) rfl rfl (decide_eq_false (by omega))) ?_)
  refine TL.nil ?_
  refine T.cond_f rfl ?_
  refine T.skip ?_
  refine T.seq ?_
  refine T.region ?_
  refine TL.cons rfl (V1.t (V1.move' z_B) ?_)
  refine TL.cons rfl (V1.t (V1.move' z_B) ?_)
  refine TL.cons rfl (V1.t (V1.conv (c := (n : Int)) ty_141 ty_5 rfl (wrap_u8 _ (by omega) (by omega))) ?_)
  refine TL.cons rfl (V1.t (V1.indexStr (s := sLen) (c := c) ty_9 (show _ = Value.string sLen from congrArg Value.string z_F) rfl (by omega) hc) ?_)
  have hc8 := c.toNat_lt
  refine TL.cons rfl (V1.t (V1.conv (c := ((c.toNat : Nat) : Int)) ty_5 ty_3 rfl (wrap_i64 _ (by omega) (by omega))) ?_)
  refine TL.cons rfl (V1.t (V1.add (c := ((c.toNat : Nat) : Int)) rfl rfl (by rw [wrap_i64 _ (by omega) (by omega)]; omega)) ?_)
  refine TL.cons rfl (V1.t (V1.assign' z_B) ?_)
  refine TL.nil ?_
  refine T.ret ?_
  exact ⟨_, G, _, .cons (.tmp z_B) .nil, z_A, rfl, _, rfl⟩

set_option maxRecDepth 100000 in
theorem Len_any (w0 : World) (n : Nat) (hn : n < 256) : FnV P 59 [.int .u64 (n : Nat)] w0 [] (fun v => ∃ m, v = .int .i64 m) := by
  refine FnV.of 8 [.tmp 2] Go.Proofs.Try.func59 rfl rfl rfl rfl (fun G hG => ?_)
  refine T.seq ?_
  refine T.region ?_
  refine TL.cons rfl (V1.t (V1.assign' z_B) ?_)
  refine TL.nil ?_
  refine T.seq ?_
  refine T.cond_f rfl ?_
  refine T.skip ?_
  refine T.seq ?_
  refine T.region ?_
  refine TL.cons rfl (V1.t (V1.move' z_B) ?_)
  refine TL.cons rfl (T1.callV has_70 rfl rfl (Len64_any w0 n hn) z_E (fun v_ hv => ?_))
  obtain ⟨m, rfl⟩ := hv
  refine TL.cons rfl (V1.t (V1.assign' z_B) ?_)
  refine TL.nil ?_
  refine T.ret ?_
  exact ⟨_, G, _, .cons (.tmp z_B) .nil, z_A, rfl, _, rfl⟩

end Go.Proofs.Ytijijaobialncaa.S
