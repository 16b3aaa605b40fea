/- Products of 128 bits; what is above 51 bits is carried; one number times another. -/
import Derived.Lib.Mul64
import Derived.Test.YtfjedhmffccgnaaGreatDoorOps9
import Derived.Test.YtfjedhmffccgnaaGreatDoorS1
import Derived.Test.YtfjedhmffccgnaaGreatDoorScSpec
namespace Go.Proofs.YtfjedhmffccgnaaGreatDoor.S
set_option maxRecDepth 100000
open Go.RowKit
open Ed
open Go.Lib
abbrev feC (x : L5) : List Value := [w64 x.a, w64 x.b, w64 x.c, w64 x.d, w64 x.e]
abbrev feV (x : L5) : Value := .agg #[w64 x.a, w64 x.b, w64 x.c, w64 x.d, w64 x.e]
abbrev wdV (w : Wd) : Value := .agg #[w64 w.hi, w64 w.lo]
def FeR (e : Fp) (v : Value) : Prop := ∃ x : L5, v = feV x ∧ x.norm ∧ x.fe = e
theorem T1.sub {C : Ctx} {o : Oper} {K : Env → List Blk → Prop} {e : Env} {L L' : List Blk} (h : T1 C o K e L') (hs : L'.Sublist L) : T1 C o K e L := fun a w K' Q' hr hst hk => h a w K' Q' hr (hst.sub hs) hk
def MAl (cs : List Value) (n : Nat) : Value → List Blk → Prop := fun v Y => ∃ b, v = .pointer (some ⟨b, 0, none⟩) ∧ (⟨b, 0, cs, n⟩ : Blk) ∈ Y
theorem MAl.mono {cs : List Value} {n : Nat} (v : Value) (Y Z : List Blk) (h : MAl cs n v Y) : MAl cs n v (Z ++ Y) := by
 obtain ⟨b, h1, h2⟩ := h; exact ⟨b, h1, List.mem_append_right _ h2⟩
def MRowF (w0 : World) (n : Nat) (vs : List Value) : Value → List Blk → Prop := fun v Y => ∃ a c, v = .slice a n c ∧ RowR w0 Y 5 (.slice a n c) n vs
theorem MRowF.mono {w0 : World} {n : Nat} {vs : List Value} (v : Value) (Y Z : List Blk) (h : MRowF w0 n vs v Y) : MRowF w0 n vs v (Z ++ Y) := by
 obtain ⟨a, c, h1, h2⟩ := h; exact ⟨a, c, h1, h2.more (Inc.skip Inc.refl)⟩
theorem V1.extN {C : Ctx} {e : Env} {L : List Blk} {dst : Option Tmp} {ty : TypeId} {pos : String} {after : Array Edge} {guard : Option (Nat × Bool)} {f : FuncId} {fn : Func} {args : List Operand} {g : Array Value → Sem Value} {ts : Array TypeId} {us : List Value} {v : Value} (hf : C.P.funcs[f]? = some fn) (h1 : (fn.name == "runtime.NumGoroutine") = false) (h2 : fn.body.isNone = true) (h3 : Extern.findNext fn = none) (h4 : Extern.find fn = some g) (has : args.map (ev C.n e) = us) (hg : ∀ w, (g us.toArray).run C.P w = .ok v w) :
 V1 C ⟨dst, .call ⟨.value (.func f), args.toArray, ts⟩, ty, pos, after, guard⟩ e L v := fun w _ => by
 show (do let d ← Deferred.ofValue (.func (.func f) #[] #[]) (args.toArray.map (ev C.n e)); Go.invoke d.target d.args : Sem Next).run C.P w = _
 rw [show args.toArray.map (ev C.n e) = us.toArray from by rw [List.map_toArray, has]]
 show (callFunc f ((#[] ++ us.toArray) ++ #[])).run C.P w = _
 rw [show ((#[] ++ us.toArray) ++ #[] : Array Value) = us.toArray from by simp, run_callFunc_extern hf h1 h2 h3 h4, hg w]; rfl
theorem add64_run {P : Program} (x y c : BitVec 64) (hc : c.toNat ≤ 1) (w : World) : (add64Entry #[w64 x, w64 y, w64 c]).run P w = .ok (.tuple #[w64 (x + y + c), w64 (BitVec.ofNat 64 ((x.toNat + y.toNat + c.toNat) / 2 ^ 64))]) w := by
 have := run_add64 (P := P) (x.toNat : Int) (y.toNat : Int) (c.toNat : Int) zw zw zw zw w
 rw [this]
 have h1 : ((x.toNat : Int) + y.toNat + c.toNat) % 18446744073709551616 = ((x + y + c).toNat : Int) := by rw [BitVec.toNat_add, BitVec.toNat_add]; omega
 have h2 : ((x.toNat : Int) + y.toNat + c.toNat) / 18446744073709551616 = ((BitVec.ofNat 64 ((x.toNat + y.toNat + c.toNat) / 2 ^ 64)).toNat : Int) := by rw [BitVec.toNat_ofNat]; have := x.isLt; have := y.isLt; omega
 rw [h1, h2]
theorem carry_le (x y c : BitVec 64) (hc : c.toNat ≤ 1) : (BitVec.ofNat 64 ((x.toNat + y.toNat + c.toNat) / 2 ^ 64)).toNat ≤ 1 := by
 rw [BitVec.toNat_ofNat]; have := x.isLt; have := y.isLt; omega
theorem mul_hi (x y : BitVec 64) : (x >>> 32) * (y >>> 32) + ((x >>> 32) * (y &&& 4294967295#64) + ((x &&& 4294967295#64) * (y &&& 4294967295#64)) >>> 32) >>> 32 + (((((x >>> 32) * (y &&& 4294967295#64) + ((x &&& 4294967295#64) * (y &&& 4294967295#64)) >>> 32) &&& 4294967295#64) + (x &&& 4294967295#64) * (y >>> 32)) >>> 32) = (Wd.ofN (x.toNat * y.toNat)).hi := by
 have A : ∀ z : BitVec 64, (z &&& 4294967295#64).toNat = z.toNat % 4294967296 := fun z => by rw [BitVec.toNat_and]; exact Nat.and_two_pow_sub_one_eq_mod _ 32
 have R : ∀ z : BitVec 64, (z >>> 32).toNat = z.toNat / 4294967296 := fun z => by rw [BitVec.toNat_ushiftRight, Nat.shiftRight_eq_div_pow]
 obtain ⟨bd, bt, bw, hhi⟩ := mul64_hi x.toNat y.toNat x.isLt y.isLt
 have bh : x.toNat * y.toNat / 18446744073709551616 < 18446744073709551616 := by
  have : x.toNat * y.toNat < 18446744073709551616 * 18446744073709551616 := Nat.mul_lt_mul_of_lt_of_lt x.isLt y.isLt
  omega
 apply BitVec.eq_of_toNat_eq
 have e1 : ((x &&& 4294967295#64) * (y &&& 4294967295#64)).toNat = (x.toNat % 4294967296) * (y.toNat % 4294967296) := by rw [mul_nat (by rw [A, A]; exact bd), A, A]
 have m2 : ((x >>> 32) * (y &&& 4294967295#64)).toNat = (x.toNat / 4294967296) * (y.toNat % 4294967296) := by rw [mul_nat (by rw [R, A]; omega), R, A]
 have e2 : ((x >>> 32) * (y &&& 4294967295#64) + ((x &&& 4294967295#64) * (y &&& 4294967295#64)) >>> 32).toNat = (x.toNat / 4294967296) * (y.toNat % 4294967296) + (x.toNat % 4294967296) * (y.toNat % 4294967296) / 4294967296 := by
  rw [add_nat (by rw [m2, R, e1]; exact bt), m2, R, e1]
 have m3 : ((x &&& 4294967295#64) * (y >>> 32)).toNat = (x.toNat % 4294967296) * (y.toNat / 4294967296) := by rw [mul_nat (by rw [R, A]; omega), R, A]
 have e3 := add_nat (x := ((x >>> 32) * (y &&& 4294967295#64) + ((x &&& 4294967295#64) * (y &&& 4294967295#64)) >>> 32) &&& 4294967295#64) (y := (x &&& 4294967295#64) * (y >>> 32)) (by rw [A, e2, m3]; exact bw)
 rw [A, e2, m3] at e3
 have m4 : ((x >>> 32) * (y >>> 32)).toNat = (x.toNat / 4294967296) * (y.toNat / 4294967296) := by rw [mul_nat (by rw [R, R]; omega), R, R]
 have e4 : ((x >>> 32) * (y >>> 32) + ((x >>> 32) * (y &&& 4294967295#64) + ((x &&& 4294967295#64) * (y &&& 4294967295#64)) >>> 32) >>> 32).toNat = (x.toNat / 4294967296) * (y.toNat / 4294967296) + ((x.toNat / 4294967296) * (y.toNat % 4294967296) + (x.toNat % 4294967296) * (y.toNat % 4294967296) / 4294967296) / 4294967296 := by
  rw [add_nat (by rw [m4, R, e2]; omega), m4, R, e2]
 rw [add_nat (by rw [e4, R, e3]; omega), e4, R, e3, hhi]
 show _ = (BitVec.ofNat 64 (x.toNat * y.toNat / 2 ^ 64)).toNat
 rw [BitVec.toNat_ofNat, Nat.mod_eq_of_lt bh]
theorem mul_lo (x y : BitVec 64) : x * y = (Wd.ofN (x.toNat * y.toNat)).lo := by
 apply BitVec.eq_of_toNat_eq
 show _ = (BitVec.ofNat 64 (x.toNat * y.toNat)).toNat
 rw [BitVec.toNat_mul, BitVec.toNat_ofNat]
theorem Wd.plus_lo (n m : Nat) : (Wd.ofN n).lo + (Wd.ofN m).lo + 0#64 = (Wd.ofN (n + m)).lo := by
 apply BitVec.eq_of_toNat_eq
 show (BitVec.ofNat 64 n + BitVec.ofNat 64 m + 0#64).toNat = (BitVec.ofNat 64 (n + m)).toNat
 rw [BitVec.add_zero, BitVec.toNat_add, BitVec.toNat_ofNat, BitVec.toNat_ofNat, BitVec.toNat_ofNat]; omega
theorem Wd.plus_hi (n m : Nat) : (Wd.ofN n).hi + (Wd.ofN m).hi + BitVec.ofNat 64 (((Wd.ofN n).lo.toNat + (Wd.ofN m).lo.toNat + (0#64 : BitVec 64).toNat) / 2 ^ 64) = (Wd.ofN (n + m)).hi := by
 apply BitVec.eq_of_toNat_eq
 show (BitVec.ofNat 64 (n / 2 ^ 64) + BitVec.ofNat 64 (m / 2 ^ 64) + BitVec.ofNat 64 (((BitVec.ofNat 64 n).toNat + (BitVec.ofNat 64 m).toNat + 0) / 2 ^ 64)).toNat = (BitVec.ofNat 64 ((n + m) / 2 ^ 64)).toNat
 rw [BitVec.toNat_add, BitVec.toNat_add, BitVec.toNat_ofNat, BitVec.toNat_ofNat, BitVec.toNat_ofNat, BitVec.toNat_ofNat, BitVec.toNat_ofNat, BitVec.toNat_ofNat]; omega
theorem Wd.more_lo (n : Nat) (k : BitVec 64) : (Wd.ofN n).lo + k + 0#64 = (Wd.ofN (n + k.toNat)).lo := by
 apply BitVec.eq_of_toNat_eq
 show (BitVec.ofNat 64 n + k + 0#64).toNat = (BitVec.ofNat 64 (n + k.toNat)).toNat
 rw [BitVec.add_zero, BitVec.toNat_add, BitVec.toNat_ofNat, BitVec.toNat_ofNat]; omega
theorem Wd.more_hi (n : Nat) (k : BitVec 64) : (Wd.ofN n).hi + BitVec.ofNat 64 (((Wd.ofN n).lo.toNat + k.toNat + (0#64 : BitVec 64).toNat) / 2 ^ 64) = (Wd.ofN (n + k.toNat)).hi := by
 apply BitVec.eq_of_toNat_eq
 have := k.isLt
 show (BitVec.ofNat 64 (n / 2 ^ 64) + BitVec.ofNat 64 (((BitVec.ofNat 64 n).toNat + k.toNat + 0) / 2 ^ 64)).toNat = (BitVec.ofNat 64 ((n + k.toNat) / 2 ^ 64)).toNat
 rw [BitVec.toNat_add, BitVec.toNat_ofNat, BitVec.toNat_ofNat, BitVec.toNat_ofNat, BitVec.toNat_ofNat]; omega
theorem Mul64_any (x y : BitVec 64) (w : World) : Fn P 123 [w64 x, w64 y] w [] (fun v Y => Y = [] ∧ v = .tuple #[w64 (Wd.ofN (x.toNat * y.toNat)).hi, w64 (Wd.ofN (x.toNat * y.toNat)).lo]) := by
 refine Fn.of 51 [.tmp 4, .tmp 5] Go.Proofs.Tryz.func123 rfl rfl rfl rfl ?_
 refine T.seq (T.region (z0 (V1.assign' (v := w64 0#64) rfl) ?_))
 refine zq (V1.assign' (v := w64 0#64) rfl) ?_
 refine zq (V1.andW (b := 4294967295#64) u64U rfl rfl) ?_
 refine zq (V1.shrW (k := 32) u64U rfl rfl) ?_
 refine zq (V1.andW (b := 4294967295#64) u64U rfl rfl) ?_
 refine zq (V1.shrW (k := 32) u64U rfl rfl) ?_
 refine zq1 (V1.mulW u64U rfl rfl) ?_
 refine T.seq (T.live (l := [(0, _), (1, _), (6, _), (7, _), (8, _), (9, _), (10, _)]) zT (fun e_ => ?_))
 refine zs ?_
 refine zq (V1.mulW u64U rfl rfl) ?_
 refine z0 (V1.shrW (k := 32) u64U rfl rfl) ?_
 refine zq (V1.addW u64U rfl rfl) ?_
 refine zq (V1.andW (b := 4294967295#64) u64U rfl rfl) ?_
 refine zq (V1.shrW (k := 32) u64U rfl rfl) ?_
 refine z0 (V1.mulW u64U rfl rfl) ?_
 refine zq1 (V1.addW u64U rfl rfl) ?_
 refine T.seq (T.live (l := [(0, _), (1, _), (7, _), (9, _), (12, _), (13, _)]) zT (fun e_ => ?_))
 refine zs ?_
 refine zq (V1.mulW u64U rfl rfl) ?_
 refine zq (V1.addW u64U rfl rfl) ?_
 refine z0 (V1.shrW (k := 32) u64U rfl rfl) ?_
 refine zq (V1.addW u64U rfl rfl) ?_
 refine zq (V1.mulW u64U rfl rfl) ?_
 exact ⟨_, [], _, .cons (.tmp z_C) (.cons (.tmp z_C) .nil), Take.nil, rfl, by rw [← mul_hi, ← mul_lo]; rfl⟩
theorem times_any (x y : BitVec 64) (w : World) : Fn P 90 [w64 x, w64 y] w [] (fun v Y => Y = [] ∧ v = wdV (Wd.ofN (x.toNat * y.toNat))) := by
 refine Fn.of 16 [.cell 4 154] Go.Proofs.Tryz.func90 rfl rfl rfl rfl ?_
 refine zs ?_
 refine zc (T1.allocN 2 zr_154 rfl (fun b4 => zs ?_))
 refine zc (T1.call0 has_123 rfl (fun w hs => Mul64_any x y w) (fun v hv => ?_))
 subst hv
 refine zs ?_
 refine z0 (V1.buildF pl_154 zr_154 (.one rfl z_C rfl (.one rfl z_C rfl .nil)) z_I) ?_
 refine zc (T1.storeN rfl rfl sz_154 (ones rfl) z_H zr zr ?_)
 refine zs ?_
 exact ⟨_, [], _, .cons (.cellN z_C one_154 sz_154 (RdN.whole z_A) (by kernel_rfl)) .nil, Take.nil, rfl, rfl⟩
theorem plus_any (n : Nat) (x y : BitVec 64) (w : World) : Fn P 91 [wdV (Wd.ofN n), w64 x, w64 y] w [] (fun v Y => Y = [] ∧ v = wdV (Wd.ofN (n + x.toNat * y.toNat))) := by
 refine Fn.of 34 [.cell 6 154] Go.Proofs.Tryz.func91 rfl rfl rfl rfl ?_
 refine zs ?_
 refine zc (T1.boxN 2 rfl rfl (fun b3 => ?_))
 refine zc (T1.allocN 2 zr_154 rfl (fun b6 => zs ?_))
 refine zc (T1.call0 has_123 rfl (fun w hs => Mul64_any x y w) (fun v hv => ?_))
 subst hv
 refine zs ?_
 refine z0 (V1.fieldAddr fl_154_1 rfl) ?_
 refine zq (V1.load1 one_79 rfl (.own z_A zr)) ?_
 refine zq1 (V1.extN (us := [w64 (Wd.ofN n).lo, w64 (Wd.ofN (x.toNat * y.toNat)).lo, w64 (0#64 : BitVec 64)]) (v := .tuple #[w64 ((Wd.ofN n).lo + (Wd.ofN (x.toNat * y.toNat)).lo + (0#64 : BitVec 64)), w64 (BitVec.ofNat 64 (((Wd.ofN n).lo.toNat + (Wd.ofN (x.toNat * y.toNat)).lo.toNat + ((0#64 : BitVec 64)).toNat) / 2 ^ 64))]) (show Go.Proofs.Tryz.prog.funcs[124]? = some _ from rfl) z_F z_F z_F (g := add64Entry) (by kernel_rfl) rfl (fun w => add64_run (Wd.ofN n).lo (Wd.ofN (x.toNat * y.toNat)).lo (0#64 : BitVec 64) ze w)) ?_
 refine T.seq (T.live (l := [(3, _), (6, _), (7, _), (8, _), (9, _)]) zT (fun e_ => ?_))
 refine T.region (z0 (V1.fieldAddr fl_154_0 rfl) ?_)
 refine zq (V1.load1 one_79 rfl (.own z_A zr)) ?_
 refine zq (V1.extN (us := [w64 (Wd.ofN n).hi, w64 (Wd.ofN (x.toNat * y.toNat)).hi, w64 (BitVec.ofNat 64 (((Wd.ofN n).lo.toNat + (Wd.ofN (x.toNat * y.toNat)).lo.toNat + (0#64 : BitVec 64).toNat) / 2 ^ 64))]) (v := .tuple #[w64 ((Wd.ofN n).hi + (Wd.ofN (x.toNat * y.toNat)).hi + (BitVec.ofNat 64 (((Wd.ofN n).lo.toNat + (Wd.ofN (x.toNat * y.toNat)).lo.toNat + (0#64 : BitVec 64).toNat) / 2 ^ 64))), w64 (BitVec.ofNat 64 (((Wd.ofN n).hi.toNat + (Wd.ofN (x.toNat * y.toNat)).hi.toNat + ((BitVec.ofNat 64 (((Wd.ofN n).lo.toNat + (Wd.ofN (x.toNat * y.toNat)).lo.toNat + (0#64 : BitVec 64).toNat) / 2 ^ 64))).toNat) / 2 ^ 64))]) (show Go.Proofs.Tryz.prog.funcs[124]? = some _ from rfl) z_F z_F z_F (g := add64Entry) (by kernel_rfl) rfl (fun w => add64_run (Wd.ofN n).hi (Wd.ofN (x.toNat * y.toNat)).hi (BitVec.ofNat 64 (((Wd.ofN n).lo.toNat + (Wd.ofN (x.toNat * y.toNat)).lo.toNat + (0#64 : BitVec 64).toNat) / 2 ^ 64)) (carry_le _ _ _ ze) w)) ?_
 refine z0 (V1.buildF pl_154 zr_154 (.one rfl z_C rfl (.one rfl z_C rfl .nil)) z_I) ?_
 refine zc (T1.storeN rfl rfl sz_154 (ones rfl) z_H zr zr ?_)
 refine zs ?_
 exact ⟨_, [], _, .cons (.cellN z_C one_154 sz_154 (RdN.whole z_A) (by kernel_rfl)) .nil, Take.nil, rfl, by rw [Wd.plus_hi, Wd.plus_lo]; rfl⟩
theorem more_any (n : Nat) (k : BitVec 64) (w : World) : Fn P 93 [wdV (Wd.ofN n), w64 k] w [] (fun v Y => Y = [] ∧ v = wdV (Wd.ofN (n + k.toNat))) := by
 refine Fn.of 20 [.cell 4 154] Go.Proofs.Tryz.func93 rfl rfl rfl rfl ?_
 refine zs ?_
 refine zc (T1.boxN 2 rfl rfl (fun b2 => ?_))
 refine zc (T1.allocN 2 zr_154 rfl (fun b4 => zs ?_))
 refine z0 (V1.fieldAddr fl_154_1 rfl) ?_
 refine zq (V1.load1 one_79 rfl (.own z_A zr)) ?_
 refine zq (V1.extN (us := [w64 (Wd.ofN n).lo, w64 k, w64 (0#64 : BitVec 64)]) (v := .tuple #[w64 ((Wd.ofN n).lo + k + (0#64 : BitVec 64)), w64 (BitVec.ofNat 64 (((Wd.ofN n).lo.toNat + k.toNat + ((0#64 : BitVec 64)).toNat) / 2 ^ 64))]) (show Go.Proofs.Tryz.prog.funcs[124]? = some _ from rfl) z_F z_F z_F (g := add64Entry) (by kernel_rfl) rfl (fun w => add64_run (Wd.ofN n).lo k (0#64 : BitVec 64) ze w)) ?_
 refine z0 (V1.fieldAddr fl_154_0 rfl) ?_
 refine zq (V1.load1 one_79 rfl (.own z_A zr)) ?_
 refine zq (V1.addW u64U rfl rfl) ?_
 refine z0 (V1.buildF pl_154 zr_154 (.one rfl z_C rfl (.one rfl z_C rfl .nil)) z_I) ?_
 refine zc (T1.storeN rfl rfl sz_154 (ones rfl) z_H zr zr ?_)
 refine zs ?_
 exact ⟨_, [], _, .cons (.cellN z_C one_154 sz_154 (RdN.whole z_A) (by kernel_rfl)) .nil, Take.nil, rfl, by rw [Wd.more_hi, Wd.more_lo]; rfl⟩
theorem split_any (x : Wd) (w : World) : Fn P 92 [wdV x] w [] (fun v Y => Y = [] ∧ v = .tuple #[w64 x.split.1, w64 x.split.2]) := by
 refine Fn.of 14 [.tmp 2, .tmp 3] Go.Proofs.Tryz.func92 rfl rfl rfl rfl ?_
 refine zs ?_
 refine zc (T1.boxN 2 rfl rfl (fun b1 => z1 ?_))
 refine T.seq (T.drawDet' mixed z_F ?_)
 refine zd 0 (zO 1 zZ) (V1.fieldAddr fl_154_0 rfl) ?_
 refine Det.cons 1 (zN 4 0 rfl zZ) (fun e_ => .inl ⟨rfl, V1.t (V1.load1 one_79 rfl (.own z_A zr)) ⟨rfl, rfl⟩⟩) ?_
 refine zd 2 (zN 5 1 rfl zZ) (V1.shlW (k := 13) u64U rfl rfl) ?_
 refine zd 3 (zO 1 zZ) (V1.fieldAddr fl_154_1 rfl) ?_
 refine Det.cons 4 (zN 7 3 rfl zZ) (fun e_ => .inl ⟨rfl, V1.t (V1.load1 one_79 rfl (.own z_A zr)) ⟨rfl, rfl⟩⟩) ?_
 refine zd 5 (zN 8 4 rfl zZ) (V1.shrW (k := 51) u64U rfl rfl) ?_
 refine zd 6 (zN 6 2 rfl (zN 9 5 rfl zZ)) (V1.orW u64U rfl rfl) ?_
 refine zd 7 (zO 1 zZ) (V1.fieldAddr fl_154_1 rfl) ?_
 refine Det.cons 8 (zN 11 7 rfl zZ) (fun e_ => .inl ⟨rfl, V1.t (V1.load1 one_79 rfl (.own z_A zr)) ⟨rfl, rfl⟩⟩) ?_
 refine zd 9 (zN 12 8 rfl zZ) (V1.andW (b := 2251799813685247#64) u64U rfl rfl) ?_
 refine zd 10 (zN 10 6 rfl zZ) (V1.assign' z_C) ?_
 refine zd 11 (zN 13 9 rfl zZ) (V1.assign' z_C) ?_
 refine Det.nil 12 (zR 2 10 rfl (zR 3 11 rfl zW)) (fun e_ => ?_)
 refine T.ret ?_
 exact ⟨_, [], _, .cons (.tmp z_C) (.cons (.tmp z_C) .nil), Take.nil, rfl, rfl⟩
set_option maxHeartbeats 2000000 in
theorem carried_any (x : L5) (w : World) : Fn P 94 [feV x] w [] (fun v Y => Y = [] ∧ v = feV x.carried) := by
 refine Fn.of 38 [.cell 2 82] Go.Proofs.Tryz.func94 rfl rfl rfl rfl ?_
 refine zs ?_
 refine zc (T1.boxN 5 rfl rfl (fun b1 => ?_))
 refine zc (T1.allocN 5 zr_82 rfl (fun b2 => ?_))
 refine TL.nil ?_
 refine T.seq (T.region (z0 (V1.assign' (v := w64 0#64) rfl) ?_))
 refine TL.nil ?_
 refine T.seq (T.seq (T.region (z1 ?_)))
 refine T.block (T.rounds 6 (TR.step ?_))
 refine zs ?_
 refine z0 (V1.ltI rfl rfl (decide_eq_true zw)) ?_
 ·
  refine zs ?_
  refine T.cond_t rfl (zs ?_)
  refine z0 (V1.fieldAddr fl_82_0 rfl) ?_
  refine z0 (V1.indexAddrA ty_80 sz_79 rfl rfl zw zw) ?_
  refine zq (V1.load1 one_79 rfl (.own z_A zr)) ?_
  refine z0 (V1.addW u64U rfl rfl) ?_
  refine z0 (V1.fieldAddr fl_82_0 rfl) ?_
  refine z0 (V1.indexAddrA ty_80 sz_79 rfl rfl zw zw) ?_
  refine zc (T1.store1 rfl rfl sz_79 rfl z_H (Nat.zero_le _) z_K ?_)
  refine TL.nil ?_
  refine T.seq (T.live (l := [(1, _), (2, _), (4, _), (5, _)]) zT (fun e_ => ?_))
  refine zs ?_
  refine z0 (V1.fieldAddr fl_82_0 rfl) ?_
  refine z0 (V1.indexAddrA ty_80 sz_79 rfl rfl zw zw) ?_
  refine z0 (V1.load1 one_79 rfl (.own z_A zr)) ?_
  refine zq (V1.shrW (k := 51) u64U rfl rfl) ?_
  refine z0 (V1.fieldAddr fl_82_0 rfl) ?_
  refine z0 (V1.indexAddrA ty_80 sz_79 rfl rfl zw zw) ?_
  refine z0 (V1.load1 one_79 rfl (.own z_A zr)) ?_
  refine z0 (V1.andW (b := 2251799813685247#64) u64U rfl rfl) ?_
  refine z0 (V1.fieldAddr fl_82_0 rfl) ?_
  refine z0 (V1.indexAddrA ty_80 sz_79 rfl rfl zw zw) ?_
  refine zc (T1.store1 rfl rfl sz_79 rfl z_H (Nat.zero_le _) z_K ?_)
  refine zs ?_
  refine zq1 (V1.add (c := 1) rfl rfl ze) ?_
  refine TR.step ?_
  refine T.seq (T.live (l := [(1, _), (2, _), (3, _), (5, _)]) zT (fun e_ => ?_))
  refine T.region (z0 (V1.ltI rfl rfl (decide_eq_true zw)) ?_)
  ·
   refine zs ?_
   refine T.cond_t rfl (zs ?_)
   refine z0 (V1.fieldAddr fl_82_0 rfl) ?_
   refine z0 (V1.indexAddrA ty_80 sz_79 rfl rfl zw zw) ?_
   refine zq (V1.load1 one_79 rfl (.own z_A zr)) ?_
   refine z0 (V1.addW u64U rfl rfl) ?_
   refine z0 (V1.fieldAddr fl_82_0 rfl) ?_
   refine z0 (V1.indexAddrA ty_80 sz_79 rfl rfl zw zw) ?_
   refine zc (T1.store1 rfl rfl sz_79 rfl z_H (Nat.zero_le _) z_K ?_)
   refine zs ?_
   refine z0 (V1.fieldAddr fl_82_0 rfl) ?_
   refine z0 (V1.indexAddrA ty_80 sz_79 rfl rfl zw zw) ?_
   refine z0 (V1.load1 one_79 rfl (.own z_A zr)) ?_
   refine zq1 (V1.shrW (k := 51) u64U rfl rfl) ?_
   refine T.live (l := [(1, _), (2, _), (3, _), (4, _), (5, _)]) zT (fun e_ => ?_)
   refine zs ?_
   refine z0 (V1.fieldAddr fl_82_0 rfl) ?_
   refine z0 (V1.indexAddrA ty_80 sz_79 rfl rfl zw zw) ?_
   refine z0 (V1.load1 one_79 rfl (.own z_A zr)) ?_
   refine z0 (V1.andW (b := 2251799813685247#64) u64U rfl rfl) ?_
   refine z0 (V1.fieldAddr fl_82_0 rfl) ?_
   refine z0 (V1.indexAddrA ty_80 sz_79 rfl rfl zw zw) ?_
   refine zc (T1.store1 rfl rfl sz_79 rfl z_H (Nat.zero_le _) z_K ?_)
   refine zs ?_
   refine zq1 (V1.add (c := 2) rfl rfl ze) ?_
   refine TR.step ?_
   refine zs ?_
   refine z0 (V1.ltI rfl rfl (decide_eq_true zw)) ?_
   ·
    refine zs ?_
    refine T.cond_t rfl (zs ?_)
    refine z0 (V1.fieldAddr fl_82_0 rfl) ?_
    refine z0 (V1.indexAddrA ty_80 sz_79 rfl rfl zw zw) ?_
    refine zq (V1.load1 one_79 rfl (.own z_A zr)) ?_
    refine z0 (V1.addW u64U rfl rfl) ?_
    refine z0 (V1.fieldAddr fl_82_0 rfl) ?_
    refine z0 (V1.indexAddrA ty_80 sz_79 rfl rfl zw zw) ?_
    refine zc (T1.store1 rfl rfl sz_79 rfl z_H (Nat.zero_le _) z_K ?_)
    refine TL.nil ?_
    refine T.seq (T.live (l := [(1, _), (2, _), (4, _), (5, _)]) zT (fun e_ => ?_))
    refine zs ?_
    refine z0 (V1.fieldAddr fl_82_0 rfl) ?_
    refine z0 (V1.indexAddrA ty_80 sz_79 rfl rfl zw zw) ?_
    refine z0 (V1.load1 one_79 rfl (.own z_A zr)) ?_
    refine zq (V1.shrW (k := 51) u64U rfl rfl) ?_
    refine z0 (V1.fieldAddr fl_82_0 rfl) ?_
    refine z0 (V1.indexAddrA ty_80 sz_79 rfl rfl zw zw) ?_
    refine z0 (V1.load1 one_79 rfl (.own z_A zr)) ?_
    refine z0 (V1.andW (b := 2251799813685247#64) u64U rfl rfl) ?_
    refine z0 (V1.fieldAddr fl_82_0 rfl) ?_
    refine z0 (V1.indexAddrA ty_80 sz_79 rfl rfl zw zw) ?_
    refine zc (T1.store1 rfl rfl sz_79 rfl z_H (Nat.zero_le _) z_K ?_)
    refine zs ?_
    refine zq1 (V1.add (c := 3) rfl rfl ze) ?_
    refine TR.step ?_
    refine T.seq (T.live (l := [(1, _), (2, _), (3, _), (5, _)]) zT (fun e_ => ?_))
    refine T.region (z0 (V1.ltI rfl rfl (decide_eq_true zw)) ?_)
    ·
     refine zs ?_
     refine T.cond_t rfl (zs ?_)
     refine z0 (V1.fieldAddr fl_82_0 rfl) ?_
     refine z0 (V1.indexAddrA ty_80 sz_79 rfl rfl zw zw) ?_
     refine zq (V1.load1 one_79 rfl (.own z_A zr)) ?_
     refine z0 (V1.addW u64U rfl rfl) ?_
     refine z0 (V1.fieldAddr fl_82_0 rfl) ?_
     refine z0 (V1.indexAddrA ty_80 sz_79 rfl rfl zw zw) ?_
     refine zc (T1.store1 rfl rfl sz_79 rfl z_H (Nat.zero_le _) z_K ?_)
     refine zs ?_
     refine z0 (V1.fieldAddr fl_82_0 rfl) ?_
     refine z0 (V1.indexAddrA ty_80 sz_79 rfl rfl zw zw) ?_
     refine z0 (V1.load1 one_79 rfl (.own z_A zr)) ?_
     refine zq1 (V1.shrW (k := 51) u64U rfl rfl) ?_
     refine T.live (l := [(1, _), (2, _), (3, _), (4, _), (5, _)]) zT (fun e_ => ?_)
     refine zs ?_
     refine z0 (V1.fieldAddr fl_82_0 rfl) ?_
     refine z0 (V1.indexAddrA ty_80 sz_79 rfl rfl zw zw) ?_
     refine z0 (V1.load1 one_79 rfl (.own z_A zr)) ?_
     refine z0 (V1.andW (b := 2251799813685247#64) u64U rfl rfl) ?_
     refine z0 (V1.fieldAddr fl_82_0 rfl) ?_
     refine z0 (V1.indexAddrA ty_80 sz_79 rfl rfl zw zw) ?_
     refine zc (T1.store1 rfl rfl sz_79 rfl z_H (Nat.zero_le _) z_K ?_)
     refine zs ?_
     refine zq1 (V1.add (c := 4) rfl rfl ze) ?_
     refine TR.step ?_
     refine zs ?_
     refine z0 (V1.ltI rfl rfl (decide_eq_true zw)) ?_
     ·
      refine zs ?_
      refine T.cond_t rfl (zs ?_)
      refine z0 (V1.fieldAddr fl_82_0 rfl) ?_
      refine z0 (V1.indexAddrA ty_80 sz_79 rfl rfl zw zw) ?_
      refine zq (V1.load1 one_79 rfl (.own z_A zr)) ?_
      refine z0 (V1.addW u64U rfl rfl) ?_
      refine z0 (V1.fieldAddr fl_82_0 rfl) ?_
      refine z0 (V1.indexAddrA ty_80 sz_79 rfl rfl zw zw) ?_
      refine zc (T1.store1 rfl rfl sz_79 rfl z_H (Nat.zero_le _) z_K ?_)
      refine TL.nil ?_
      refine T.seq (T.live (l := [(1, _), (2, _), (4, _), (5, _)]) zT (fun e_ => ?_))
      refine zs ?_
      refine z0 (V1.fieldAddr fl_82_0 rfl) ?_
      refine z0 (V1.indexAddrA ty_80 sz_79 rfl rfl zw zw) ?_
      refine z0 (V1.load1 one_79 rfl (.own z_A zr)) ?_
      refine zq (V1.shrW (k := 51) u64U rfl rfl) ?_
      refine z0 (V1.fieldAddr fl_82_0 rfl) ?_
      refine z0 (V1.indexAddrA ty_80 sz_79 rfl rfl zw zw) ?_
      refine z0 (V1.load1 one_79 rfl (.own z_A zr)) ?_
      refine z0 (V1.andW (b := 2251799813685247#64) u64U rfl rfl) ?_
      refine z0 (V1.fieldAddr fl_82_0 rfl) ?_
      refine z0 (V1.indexAddrA ty_80 sz_79 rfl rfl zw zw) ?_
      refine zc (T1.store1 rfl rfl sz_79 rfl z_H (Nat.zero_le _) z_K ?_)
      refine zs ?_
      refine zq1 (V1.add (c := 5) rfl rfl ze) ?_
      refine TR.step ?_
      refine T.seq (T.live (l := [(1, _), (2, _), (3, _), (5, _)]) zT (fun e_ => ?_))
      refine T.region (z0 (V1.ltI rfl rfl (decide_eq_false zw)) ?_)
      ·
       refine zs ?_
       refine T.cond_f rfl (zs ?_)
       refine z0 (V1.fieldAddr fl_82_0 rfl) ?_
       refine z0 (V1.indexAddrA ty_80 sz_79 rfl rfl ze ze) ?_
       refine zq (V1.load1 one_79 rfl (.own z_A zr)) ?_
       refine z0 (V1.mulW (a := 19#64) u64U rfl rfl) ?_
       refine z0 (V1.addW u64U rfl rfl) ?_
       refine z0 (V1.fieldAddr fl_82_0 rfl) ?_
       refine z0 (V1.indexAddrA ty_80 sz_79 rfl rfl ze ze) ?_
       refine zc (T1.store1 rfl rfl sz_79 rfl z_H (Nat.zero_le _) z_K ?_)
       refine zs ?_
       refine z0 (V1.loadN one_82 sz_82 rfl (RdN.whole z_A) zr) ?_
       refine zc (T1.storeN rfl rfl sz_82 (ones rfl) z_H zr zr ?_)
       refine zs ?_
       exact ⟨_, [], _, .cons (.cellN z_C one_82 sz_82 (RdN.whole z_A) (by kernel_rfl)) .nil, Take.nil, rfl, rfl⟩
theorem Small_any (n : BitVec 32) (w : World) : Fn P 48 [w32 n] w [] (fun v Y => Y = [] ∧ v = feV ⟨n.setWidth 64, 0, 0, 0, 0⟩) := by
 refine Fn.of 7 [.cell 2 82] Go.Proofs.Tryz.func48 rfl rfl rfl rfl ?_
 refine zs ?_
 refine zc (T1.allocN 5 zr_82 rfl (fun b2 => zs ?_))
 refine z0 (V1.convW 64 u64U ty_37 ty_79 rfl) ?_
 refine z0 (V1.buildFA ty_80 sz_79 zr_80 (.one rfl z_C rfl .nil) z_I) ?_
 refine z0 (V1.buildF pl_82 zr_82 (.many rfl z_C rfl .nil) z_I) ?_
 refine zc (T1.storeN rfl rfl sz_82 (ones rfl) z_H zr zr ?_)
 refine zs ?_
 exact ⟨_, [], _, .cons (.cellN z_C one_82 sz_82 (RdN.whole z_A) (by kernel_rfl)) .nil, Take.nil, rfl, rfl⟩
end Go.Proofs.YtfjedhmffccgnaaGreatDoor.S
