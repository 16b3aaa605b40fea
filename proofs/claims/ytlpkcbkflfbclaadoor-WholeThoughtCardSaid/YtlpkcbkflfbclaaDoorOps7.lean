/- Numbers without sign by their bits: each rule says the answer as an operation on bit vectors. Holds for every program. -/
import Derived.Test.YtlpkcbkflfbclaaDoorOps5
namespace Go.Proofs.YtlpkcbkflfbclaaDoor.S
open Go.RowKit

/-- A kind without sign, of n bits. -/
def Uns (kd : IntKind) (n : Nat) : Prop := kd.signed = false ∧ kd.bits = n
theorem u8U : Uns .u8 8 := ⟨rfl, rfl⟩
theorem u32U : Uns .u32 32 := ⟨rfl, rfl⟩
theorem u64U : Uns .u64 64 := ⟨rfl, rfl⟩
theorem wrapU {kd : IntKind} {n : Nat} (hk : Uns kd n) (z : Int) : kd.wrap z = z % (2 ^ n : Int) := by
  obtain ⟨h1, h2⟩ := hk
  subst h2
  unfold IntKind.wrap
  rw [h1]; simp
theorem wrapUN {kd : IntKind} {n : Nat} (hk : Uns kd n) (z : Nat) : kd.wrap (z : Int) = ((z % 2 ^ n : Nat) : Int) := by
  rw [wrapU hk]; simp
theorem ofInt_toNat {n : Nat} (x : BitVec n) : BitVec.ofInt n (x.toNat : Int) = x := by
  rw [BitVec.ofInt_natCast, BitVec.ofNat_toNat, BitVec.setWidth_eq]

section
variable {C : Ctx} {e : Env} {L : List Blk} {dst : Option Tmp} {ty : TypeId} {pos : String} {after : Array Edge} {guard : Option (Nat × Bool)}
variable {t yt : TypeId} {x y : Operand} {kd : IntKind} {n : Nat}

theorem V1.addW {a b : BitVec n} (hk : Uns kd n) (hx : ev C.n e x = .int kd a.toNat) (hy : ev C.n e y = .int kd b.toNat) : V1 C ⟨dst, .binOp .add t x y yt, ty, pos, after, guard⟩ e L (.int kd (a + b).toNat) :=
  V1.add hx hy (by rw [BitVec.toNat_add, ← Int.natCast_add, wrapUN hk])
theorem V1.subW {a b : BitVec n} (hk : Uns kd n) (hx : ev C.n e x = .int kd a.toNat) (hy : ev C.n e y = .int kd b.toNat) : V1 C ⟨dst, .binOp .sub t x y yt, ty, pos, after, guard⟩ e L (.int kd (a - b).toNat) :=
  V1.sub hx hy (by
    rw [BitVec.toNat_sub, wrapU hk]
    have hb := b.isLt
    have ha := a.isLt
    have : ((a.toNat : Int) - b.toNat) = ((2 ^ n - b.toNat + a.toNat : Nat) : Int) - (2 ^ n : Int) := by
      rw [Int.natCast_add, Int.natCast_sub (Nat.le_of_lt hb)]; simp; omega
    rw [this, Int.sub_emod_right]; simp)
theorem V1.mulW {a b : BitVec n} (hk : Uns kd n) (hx : ev C.n e x = .int kd a.toNat) (hy : ev C.n e y = .int kd b.toNat) : V1 C ⟨dst, .binOp .mul t x y yt, ty, pos, after, guard⟩ e L (.int kd (a * b).toNat) :=
  V1.mul hx hy (by rw [BitVec.toNat_mul, ← Int.natCast_mul, wrapUN hk])
theorem V1.quoW {a b : BitVec n} (hk : Uns kd n) (hx : ev C.n e x = .int kd a.toNat) (hy : ev C.n e y = .int kd b.toNat) (hb : b.toNat ≠ 0) : V1 C ⟨dst, .binOp .quo t x y yt, ty, pos, after, guard⟩ e L (.int kd (a / b).toNat) :=
  V1.quo hx hy (by omega) (by
    rw [BitVec.toNat_udiv, ← Int.ofNat_tdiv, wrapUN hk, Nat.mod_eq_of_lt (Nat.lt_of_le_of_lt (Nat.div_le_self _ _) a.isLt)])
theorem V1.remW {a b : BitVec n} (hx : ev C.n e x = .int kd a.toNat) (hy : ev C.n e y = .int kd b.toNat) (hb : b.toNat ≠ 0) : V1 C ⟨dst, .binOp .rem t x y yt, ty, pos, after, guard⟩ e L (.int kd (a % b).toNat) :=
  V1.rem hx hy (by omega) (by rw [BitVec.toNat_umod, ← Int.ofNat_tmod])
theorem bitW {kd : IntKind} {n : Nat} (hk : Uns kd n) (z : BitVec n) : kd.wrap (z.toNat : Int) = (z.toNat : Int) := by
  rw [wrapUN hk, Nat.mod_eq_of_lt z.isLt]
theorem V1.andW {a b : BitVec n} (hk : Uns kd n) (hx : ev C.n e x = .int kd a.toNat) (hy : ev C.n e y = .int kd b.toNat) : V1 C ⟨dst, .binOp .and t x y yt, ty, pos, after, guard⟩ e L (.int kd (a &&& b).toNat) :=
  V1.bits rfl hx hy (by obtain ⟨h1, rfl⟩ := hk; show kd.wrap (((BitVec.ofInt kd.bits _) &&& (BitVec.ofInt kd.bits _)).toNat : Int) = _; rw [ofInt_toNat, ofInt_toNat, bitW ⟨h1, rfl⟩])
theorem V1.orW {a b : BitVec n} (hk : Uns kd n) (hx : ev C.n e x = .int kd a.toNat) (hy : ev C.n e y = .int kd b.toNat) : V1 C ⟨dst, .binOp .or t x y yt, ty, pos, after, guard⟩ e L (.int kd (a ||| b).toNat) :=
  V1.bits rfl hx hy (by obtain ⟨h1, rfl⟩ := hk; show kd.wrap (((BitVec.ofInt kd.bits _) ||| (BitVec.ofInt kd.bits _)).toNat : Int) = _; rw [ofInt_toNat, ofInt_toNat, bitW ⟨h1, rfl⟩])
theorem V1.xorW {a b : BitVec n} (hk : Uns kd n) (hx : ev C.n e x = .int kd a.toNat) (hy : ev C.n e y = .int kd b.toNat) : V1 C ⟨dst, .binOp .xor t x y yt, ty, pos, after, guard⟩ e L (.int kd (a ^^^ b).toNat) :=
  V1.bits rfl hx hy (by obtain ⟨h1, rfl⟩ := hk; show kd.wrap (((BitVec.ofInt kd.bits _) ^^^ (BitVec.ofInt kd.bits _)).toNat : Int) = _; rw [ofInt_toNat, ofInt_toNat, bitW ⟨h1, rfl⟩])
theorem V1.complW {a : BitVec n} (hk : Uns kd n) (hx : ev C.n e x = .int kd a.toNat) : V1 C ⟨dst, .unOp .xor t x, ty, pos, after, guard⟩ e L (.int kd (~~~a).toNat) :=
  V1.compl hx (by
    obtain ⟨h1, rfl⟩ := hk
    show kd.wrap (((BitVec.ofInt kd.bits _) ^^^ (BitVec.ofInt kd.bits _)).toNat : Int) = _
    rw [ofInt_toNat, bitW ⟨h1, rfl⟩]
    congr 2
    unfold IntKind.max
    rw [h1]
    simp only [Bool.false_eq_true, if_false]
    have : BitVec.ofInt kd.bits (2 ^ kd.bits - 1) = BitVec.allOnes kd.bits := by
      apply BitVec.eq_of_toNat_eq
      have hp : 0 < 2 ^ kd.bits := Nat.two_pow_pos _
      rw [BitVec.toNat_ofInt, BitVec.toNat_allOnes, show ((2 : Int) ^ kd.bits - 1) = ((2 ^ kd.bits - 1 : Nat) : Int) from by rw [Int.natCast_sub hp]; simp, ← Int.natCast_emod, Int.toNat_natCast, Nat.mod_eq_of_lt (by omega)]
    rw [this, BitVec.allOnes_xor])
theorem V1.shlW {ky : IntKind} {a : BitVec n} {k : Nat} (hk : Uns kd n) (hx : ev C.n e x = .int kd a.toNat) (hy : ev C.n e y = .int ky k) : V1 C ⟨dst, .binOp .shl t x y yt, ty, pos, after, guard⟩ e L (.int kd (a <<< k).toNat) :=
  V1.shl hx hy (by omega) (by
    have hk' := hk
    obtain ⟨h1, rfl⟩ := hk'
    rw [Int.toNat_natCast, show ((a.toNat : Int) * 2 ^ (min k kd.bits)) = ((a.toNat * 2 ^ (min k kd.bits) : Nat) : Int) from by simp, wrapUN hk, BitVec.toNat_shiftLeft, Nat.shiftLeft_eq]
    rcases Nat.le_total k kd.bits with h | h
    · rw [Nat.min_eq_left h]
    · rw [Nat.min_eq_right h, Nat.mul_mod_left, show k = kd.bits + (k - kd.bits) from by omega, Nat.pow_add, ← Nat.mul_assoc, Nat.mul_right_comm, Nat.mul_mod_left])
theorem V1.shrW {ky : IntKind} {a : BitVec n} {k : Nat} (hk : Uns kd n) (hx : ev C.n e x = .int kd a.toNat) (hy : ev C.n e y = .int ky k) : V1 C ⟨dst, .binOp .shr t x y yt, ty, pos, after, guard⟩ e L (.int kd (a >>> k).toNat) :=
  V1.shr hx hy (by omega) (by
    obtain ⟨h1, rfl⟩ := hk
    rw [Int.toNat_natCast, show ((2 : Int) ^ (min k kd.bits)) = ((2 ^ (min k kd.bits) : Nat) : Int) from by simp, Int.fdiv_eq_ediv_of_nonneg _ (Int.natCast_nonneg _), BitVec.toNat_ushiftRight, Nat.shiftRight_eq_div_pow, ← Int.natCast_ediv]
    rcases Nat.le_total k kd.bits with h | h
    · rw [Nat.min_eq_left h]
    · rw [Nat.min_eq_right h, Nat.div_eq_of_lt a.isLt, Nat.div_eq_of_lt (Nat.lt_of_lt_of_le a.isLt (Nat.pow_le_pow_right (by omega) h))])
theorem V1.convW {s d : TypeId} {k1 k2 : IntKind} {ds : TypeDesc} {a : BitVec n} (m : Nat) (hk : Uns k2 m) (hs : C.P.underlying s = some ds) (hd : C.P.underlying d = some (.int k2)) (hx : ev C.n e x = .int k1 a.toNat) : V1 C ⟨dst, .convert s d x, ty, pos, after, guard⟩ e L (.int k2 (a.setWidth m).toNat) :=
  V1.conv hs hd hx (by rw [wrapUN hk, BitVec.toNat_setWidth])
/-- A number that is no more than so many bits hold, by its bits. -/
theorem V1.convN {s d : TypeId} {k1 k2 : IntKind} {ds : TypeDesc} {a : Nat} (m : Nat) (hk : Uns k2 m) (hs : C.P.underlying s = some ds) (hd : C.P.underlying d = some (.int k2)) (hx : ev C.n e x = .int k1 a) : V1 C ⟨dst, .convert s d x, ty, pos, after, guard⟩ e L (.int k2 (BitVec.ofNat m a).toNat) :=
  V1.conv hs hd hx (by rw [wrapUN hk, BitVec.toNat_ofNat])
end
end Go.Proofs.YtlpkcbkflfbclaaDoor.S
