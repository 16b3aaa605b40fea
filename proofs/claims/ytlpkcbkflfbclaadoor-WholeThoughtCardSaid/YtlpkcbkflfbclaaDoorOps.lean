/- The laws of the operations that only reckon, of calls, and of entering and leaving a function. Holds for every program. -/
import Derived.Test.YtlpkcbkflfbclaaDoorMem
import Derived.Laws.Strings
import Derived.Laws.Sem
namespace Go.Proofs.YtlpkcbkflfbclaaDoor.S
open Go.RowKit

section rules
variable {C : Ctx} {K : Env → List Blk → Prop} {e : Env} {L : List Blk}
variable {dst : Option Tmp} {ty : TypeId} {pos : String} {after : Array Edge} {guard : Option (Nat × Bool)}

theorem V1.run {o : Oper} {s : Sem Value} {v : Value} (ho : execOp (ev C.n e) o = (do pure (Next.value (← s)) : Sem Next)) (h : ∀ w, St C.w0 C.M L w → s.run C.P w = .ok v w) : V1 C o e L v :=
  fun w hs => by rw [ho]; exact run_value (h w hs)

theorem V1.move {x : Operand} : V1 C ⟨dst, .move x, ty, pos, after, guard⟩ e L (ev C.n e x) := (fun _ _ => rfl)

theorem V1.assign {x : Operand} : V1 C ⟨dst, .assign x, ty, pos, after, guard⟩ e L (ev C.n e x) := (fun _ _ => rfl)

/-- The same, the value by name. -/
theorem V1.move' {x : Operand} {v : Value} (hx : ev C.n e x = v) : V1 C ⟨dst, .move x, ty, pos, after, guard⟩ e L v := (fun _ _ => by subst hx; rfl)

theorem V1.assign' {x : Operand} {v : Value} (hx : ev C.n e x = v) : V1 C ⟨dst, .assign x, ty, pos, after, guard⟩ e L v := (fun _ _ => by subst hx; rfl)

theorem V1.pick {c x y : Operand} {b : Bool} {v : Value} (hc : ev C.n e c = .bool b) (hv : (bif b then ev C.n e x else ev C.n e y) = v) : V1 C ⟨dst, .pick c x y, ty, pos, after, guard⟩ e L v := 
  (fun w _ => by
    show (do pure (Next.value (if ← asBool (ev C.n e c) then ev C.n e x else ev C.n e y)) : Sem Next).run C.P w = _
    subst hv
    rw [hc]; cases b <;> rfl)

theorem V1.extract {t : Operand} {i : Nat} {vs : Array Value} {v : Value} (ht : ev C.n e t = .tuple vs) (hv : vs[i]? = some v) : V1 C ⟨dst, .extract t i, ty, pos, after, guard⟩ e L v := 
  V1.run (s := Instr.extract (ev C.n e t) i) rfl (fun w _ => by rw [ht]; simp [Instr.extract, hv, pure])

theorem V1.nilCheck {x : Operand} {a : Addr} (hx : ev C.n e x = .pointer (some a)) : V1 C ⟨dst, .nilCheck x, ty, pos, after, guard⟩ e L (.pointer (some a)) := 
  (fun w _ => by
    show (match ev C.n e x with | .pointer none | .nilIface | .nilFunc => _ | .func (.method name) first captured => _ | x => _ : Sem Next).run C.P w = _
    rw [hx]; rfl)

/-! ### Numbers -/

theorem V1.arith {op : BinOp} {t yt : TypeId} {x y : Operand} {kd : IntKind} {a b : Int} {v : Value} (hx : ev C.n e x = .int kd a) (hy : ev C.n e y = .int kd b)
    (h : ∀ w, (do eqGuard op t x y (.int kd a) (.int kd b); binOp op t (.int kd a) (.int kd b) : Sem Value).run C.P w = .ok v w) : V1 C ⟨dst, .binOp op t x y yt, ty, pos, after, guard⟩ e L v := 
  V1.run (s := do eqGuard op t x y (ev C.n e x) (ev C.n e y); binOp op t (ev C.n e x) (ev C.n e y)) rfl (fun w _ => by rw [hx, hy]; exact h w)

theorem run_int {P : Program} {op : BinOp} {t : TypeId} {x y : Operand} {kd : IntKind} {a b : Int} {s : Sem Value} (h : binOp op t (.int kd a) (.int kd b) = s) (w : World) :
    (do eqGuard op t x y (.int kd a) (.int kd b); binOp op t (.int kd a) (.int kd b) : Sem Value).run P w = s.run P w := by
  rw [h]
  cases op <;> rfl

theorem binOp_int {op : BinOp} {t : TypeId} {kd : IntKind} {a b : Int} : binOp op t (.int kd a) (.int kd b) = (match op with
    | .shl | .shr => Op.shift op kd a kd b | .add | .sub | .mul => Op.intArith op kd a b | .quo | .rem => Op.intDiv op kd a b | .and | .or | .xor | .andNot => Op.intBits op kd a b | _ => Op.intCmp op a b) := by
  cases op <;> simp [binOp]

theorem V1.add {t yt : TypeId} {x y : Operand} {kd : IntKind} {a b c : Int} (hx : ev C.n e x = .int kd a) (hy : ev C.n e y = .int kd b) (h : kd.wrap (a + b) = c) : V1 C ⟨dst, .binOp .add t x y yt, ty, pos, after, guard⟩ e L (.int kd c) := 
  V1.arith hx hy (fun w => by rw [run_int binOp_int]; subst h; rfl)

theorem V1.sub {t yt : TypeId} {x y : Operand} {kd : IntKind} {a b c : Int} (hx : ev C.n e x = .int kd a) (hy : ev C.n e y = .int kd b) (h : kd.wrap (a - b) = c) : V1 C ⟨dst, .binOp .sub t x y yt, ty, pos, after, guard⟩ e L (.int kd c) := 
  V1.arith hx hy (fun w => by rw [run_int binOp_int]; subst h; rfl)

theorem V1.mul {t yt : TypeId} {x y : Operand} {kd : IntKind} {a b c : Int} (hx : ev C.n e x = .int kd a) (hy : ev C.n e y = .int kd b) (h : kd.wrap (a * b) = c) : V1 C ⟨dst, .binOp .mul t x y yt, ty, pos, after, guard⟩ e L (.int kd c) := 
  V1.arith hx hy (fun w => by rw [run_int binOp_int]; subst h; rfl)

theorem V1.quo {t yt : TypeId} {x y : Operand} {kd : IntKind} {a b c : Int} (hx : ev C.n e x = .int kd a) (hy : ev C.n e y = .int kd b) (hb : b ≠ 0) (h : kd.wrap (a.tdiv b) = c) : V1 C ⟨dst, .binOp .quo t x y yt, ty, pos, after, guard⟩ e L (.int kd c) := 
  V1.arith hx hy (fun w => by rw [run_int binOp_int]; subst h; simp [Op.intDiv, hb, pure])

theorem V1.rem {t yt : TypeId} {x y : Operand} {kd : IntKind} {a b c : Int} (hx : ev C.n e x = .int kd a) (hy : ev C.n e y = .int kd b) (hb : b ≠ 0) (h : a.tmod b = c) : V1 C ⟨dst, .binOp .rem t x y yt, ty, pos, after, guard⟩ e L (.int kd c) := 
  V1.arith hx hy (fun w => by rw [run_int binOp_int]; subst h; simp [Op.intDiv, hb, pure])

/-- '&', '|', '^', '&^' on the numbers' bits. -/
def bitop (op : BinOp) (kd : IntKind) (x y : Int) : Int :=
  let a := BitVec.ofInt kd.bits x
  let b := BitVec.ofInt kd.bits y
  match op with
  | .and => kd.wrap (a &&& b).toNat
  | .or => kd.wrap (a ||| b).toNat
  | .xor => kd.wrap (a ^^^ b).toNat
  | _ => kd.wrap (a &&& ~~~b).toNat

theorem V1.bits {op : BinOp} {t yt : TypeId} {x y : Operand} {kd : IntKind} {a b c : Int} (hop : (match op with | .and | .or | .xor | .andNot => true | _ => false) = true) (hx : ev C.n e x = .int kd a) (hy : ev C.n e y = .int kd b) (h : bitop op kd a b = c) : V1 C ⟨dst, .binOp op t x y yt, ty, pos, after, guard⟩ e L (.int kd c) := 
  V1.arith hx hy (fun w => by
    rw [run_int binOp_int]; subst h
    cases op <;> first | (cases hop; done) | rfl)

/-- Shifts: the count's kind may be another. -/
theorem V1.shl {t yt : TypeId} {x y : Operand} {kd ky : IntKind} {a b c : Int} (hx : ev C.n e x = .int kd a) (hy : ev C.n e y = .int ky b) (hb : 0 ≤ b) (h : kd.wrap (a * 2 ^ (min b.toNat kd.bits)) = c) : V1 C ⟨dst, .binOp .shl t x y yt, ty, pos, after, guard⟩ e L (.int kd c) := 
  V1.run (s := do eqGuard .shl t x y (ev C.n e x) (ev C.n e y); binOp .shl t (ev C.n e x) (ev C.n e y)) rfl (fun w _ => by
    rw [hx, hy]; subst h
    show (Op.shift .shl kd a ky b).run C.P w = _
    simp [Op.shift, show ¬ b < 0 by omega, pure])

theorem V1.shr {t yt : TypeId} {x y : Operand} {kd ky : IntKind} {a b c : Int} (hx : ev C.n e x = .int kd a) (hy : ev C.n e y = .int ky b) (hb : 0 ≤ b) (h : a.fdiv (2 ^ (min b.toNat kd.bits)) = c) : V1 C ⟨dst, .binOp .shr t x y yt, ty, pos, after, guard⟩ e L (.int kd c) := 
  V1.run (s := do eqGuard .shr t x y (ev C.n e x) (ev C.n e y); binOp .shr t (ev C.n e x) (ev C.n e y)) rfl (fun w _ => by
    rw [hx, hy]; subst h
    show (Op.shift .shr kd a ky b).run C.P w = _
    simp [Op.shift, show ¬ b < 0 by omega, pure])

theorem V1.eqI {t yt : TypeId} {x y : Operand} {kd : IntKind} {a b : Int} {r : Bool} (hx : ev C.n e x = .int kd a) (hy : ev C.n e y = .int kd b) (h : decide (a = b) = r) : V1 C ⟨dst, .binOp .eql t x y yt, ty, pos, after, guard⟩ e L (.bool r) := 
  V1.arith hx hy (fun w => by rw [run_int binOp_int]; subst h; rfl)

theorem V1.neI {t yt : TypeId} {x y : Operand} {kd : IntKind} {a b : Int} {r : Bool} (hx : ev C.n e x = .int kd a) (hy : ev C.n e y = .int kd b) (h : decide (a ≠ b) = r) : V1 C ⟨dst, .binOp .neq t x y yt, ty, pos, after, guard⟩ e L (.bool r) := 
  V1.arith hx hy (fun w => by
    rw [run_int binOp_int]; subst h
    show Result.ok (Value.bool (a != b)) w = _
    congr 2
    by_cases hab : a = b <;> simp [hab])

theorem V1.ltI {t yt : TypeId} {x y : Operand} {kd : IntKind} {a b : Int} {r : Bool} (hx : ev C.n e x = .int kd a) (hy : ev C.n e y = .int kd b) (h : decide (a < b) = r) : V1 C ⟨dst, .binOp .lss t x y yt, ty, pos, after, guard⟩ e L (.bool r) := 
  V1.arith hx hy (fun w => by rw [run_int binOp_int]; subst h; rfl)

theorem V1.leI {t yt : TypeId} {x y : Operand} {kd : IntKind} {a b : Int} {r : Bool} (hx : ev C.n e x = .int kd a) (hy : ev C.n e y = .int kd b) (h : decide (a ≤ b) = r) : V1 C ⟨dst, .binOp .leq t x y yt, ty, pos, after, guard⟩ e L (.bool r) := 
  V1.arith hx hy (fun w => by rw [run_int binOp_int]; subst h; rfl)

theorem V1.gtI {t yt : TypeId} {x y : Operand} {kd : IntKind} {a b : Int} {r : Bool} (hx : ev C.n e x = .int kd a) (hy : ev C.n e y = .int kd b) (h : decide (b < a) = r) : V1 C ⟨dst, .binOp .gtr t x y yt, ty, pos, after, guard⟩ e L (.bool r) := 
  V1.arith hx hy (fun w => by rw [run_int binOp_int]; subst h; rfl)

theorem V1.geI {t yt : TypeId} {x y : Operand} {kd : IntKind} {a b : Int} {r : Bool} (hx : ev C.n e x = .int kd a) (hy : ev C.n e y = .int kd b) (h : decide (b ≤ a) = r) : V1 C ⟨dst, .binOp .geq t x y yt, ty, pos, after, guard⟩ e L (.bool r) := 
  V1.arith hx hy (fun w => by rw [run_int binOp_int]; subst h; rfl)

/-- A test walked both ways. -/
theorem T1.eqI_split {t yt : TypeId} {x y : Operand} {kd : IntKind} {a b : Int} (hx : ev C.n e x = .int kd a) (hy : ev C.n e y = .int kd b) (k1 : a = b → K (putO e dst (.bool true)) L) (k0 : a ≠ b → K (putO e dst (.bool false)) L) : T1 C ⟨dst, .binOp .eql t x y yt, ty, pos, after, guard⟩ K e L := by
  by_cases h : a = b
  · exact (V1.eqI hx hy (by simp [h])).t (k1 h)
  · exact (V1.eqI hx hy (by simp [h])).t (k0 h)
theorem T1.neI_split {t yt : TypeId} {x y : Operand} {kd : IntKind} {a b : Int} (hx : ev C.n e x = .int kd a) (hy : ev C.n e y = .int kd b) (k1 : a ≠ b → K (putO e dst (.bool true)) L) (k0 : a = b → K (putO e dst (.bool false)) L) : T1 C ⟨dst, .binOp .neq t x y yt, ty, pos, after, guard⟩ K e L := by
  by_cases h : a = b
  · exact (V1.neI hx hy (by simp [h])).t (k0 h)
  · exact (V1.neI hx hy (by simp [h])).t (k1 h)
theorem T1.ltI_split {t yt : TypeId} {x y : Operand} {kd : IntKind} {a b : Int} (hx : ev C.n e x = .int kd a) (hy : ev C.n e y = .int kd b) (k1 : a < b → K (putO e dst (.bool true)) L) (k0 : b ≤ a → K (putO e dst (.bool false)) L) : T1 C ⟨dst, .binOp .lss t x y yt, ty, pos, after, guard⟩ K e L := by
  by_cases h : a < b
  · exact (V1.ltI hx hy (by simp [h])).t (k1 h)
  · exact (V1.ltI hx hy (by simp [h])).t (k0 (by omega))
theorem T1.leI_split {t yt : TypeId} {x y : Operand} {kd : IntKind} {a b : Int} (hx : ev C.n e x = .int kd a) (hy : ev C.n e y = .int kd b) (k1 : a ≤ b → K (putO e dst (.bool true)) L) (k0 : b < a → K (putO e dst (.bool false)) L) : T1 C ⟨dst, .binOp .leq t x y yt, ty, pos, after, guard⟩ K e L := by
  by_cases h : a ≤ b
  · exact (V1.leI hx hy (by simp [h])).t (k1 h)
  · exact (V1.leI hx hy (by simp [h])).t (k0 (by omega))
theorem T1.gtI_split {t yt : TypeId} {x y : Operand} {kd : IntKind} {a b : Int} (hx : ev C.n e x = .int kd a) (hy : ev C.n e y = .int kd b) (k1 : b < a → K (putO e dst (.bool true)) L) (k0 : a ≤ b → K (putO e dst (.bool false)) L) : T1 C ⟨dst, .binOp .gtr t x y yt, ty, pos, after, guard⟩ K e L := by
  by_cases h : b < a
  · exact (V1.gtI hx hy (by simp [h])).t (k1 h)
  · exact (V1.gtI hx hy (by simp [h])).t (k0 (by omega))
theorem T1.geI_split {t yt : TypeId} {x y : Operand} {kd : IntKind} {a b : Int} (hx : ev C.n e x = .int kd a) (hy : ev C.n e y = .int kd b) (k1 : b ≤ a → K (putO e dst (.bool true)) L) (k0 : a < b → K (putO e dst (.bool false)) L) : T1 C ⟨dst, .binOp .geq t x y yt, ty, pos, after, guard⟩ K e L := by
  by_cases h : b ≤ a
  · exact (V1.geI hx hy (by simp [h])).t (k1 h)
  · exact (V1.geI hx hy (by simp [h])).t (k0 (by omega))

/-! ### Strings, bools, tests on nil -/

theorem V1.str {op : BinOp} {t yt : TypeId} {x y : Operand} {a b : ByteArray} {v : Value} (hx : ev C.n e x = .string a) (hy : ev C.n e y = .string b) (h : ∀ w, (Op.stringOp op a b).run C.P w = .ok v w) : V1 C ⟨dst, .binOp op t x y yt, ty, pos, after, guard⟩ e L v := 
  V1.run (s := do eqGuard op t x y (ev C.n e x) (ev C.n e y); binOp op t (ev C.n e x) (ev C.n e y)) rfl (fun w _ => by
    rw [hx, hy]
    have : ∀ op, (do eqGuard op t x y (.string a) (.string b); binOp op t (.string a) (.string b) : Sem Value).run C.P w = (Op.stringOp op a b).run C.P w := by intro op; cases op <;> rfl
    rw [this]; exact h w)

theorem ba_beq (a b : ByteArray) : (a.toList == b.toList) = decide (a = b) := by
  by_cases h : a = b
  · subst h; simp
  · have : a.toList ≠ b.toList := fun he => h (by
      rw [ByteArray.toList_eq, ByteArray.toList_eq] at he
      cases a; cases b
      simpa using he)
    simp [h, this]

theorem V1.eqS {t yt : TypeId} {x y : Operand} {a b : ByteArray} {r : Bool} (hx : ev C.n e x = .string a) (hy : ev C.n e y = .string b) (h : decide (a = b) = r) : V1 C ⟨dst, .binOp .eql t x y yt, ty, pos, after, guard⟩ e L (.bool r) := 
  V1.str hx hy (fun w => by show Result.ok (Value.bool (a.toList == b.toList)) w = _; rw [ba_beq, h])

theorem V1.neS {t yt : TypeId} {x y : Operand} {a b : ByteArray} {r : Bool} (hx : ev C.n e x = .string a) (hy : ev C.n e y = .string b) (h : decide (a ≠ b) = r) : V1 C ⟨dst, .binOp .neq t x y yt, ty, pos, after, guard⟩ e L (.bool r) := 
  V1.str hx hy (fun w => by show Result.ok (Value.bool (!(a.toList == b.toList))) w = _; rw [ba_beq, ← h]; by_cases hab : a = b <;> simp [hab])

theorem V1.addS {t yt : TypeId} {x y : Operand} {a b : ByteArray} (hx : ev C.n e x = .string a) (hy : ev C.n e y = .string b) (h : a.size + b.size < 2 ^ 63) : V1 C ⟨dst, .binOp .add t x y yt, ty, pos, after, guard⟩ e L (.string (a ++ b)) := 
  V1.str hx hy (fun w => by
    show (if ((a.size + b.size : Nat) : Int) > IntKind.i64.max then _ else _ : Sem Value).run C.P w = _
    rw [if_neg (by have : IntKind.i64.max = 2 ^ 63 - 1 := rfl; omega)]; rfl)

theorem V1.ltS {t yt : TypeId} {x y : Operand} {a b : ByteArray} {r : Bool} (hx : ev C.n e x = .string a) (hy : ev C.n e y = .string b) (h : Op.bytesLess a.toList b.toList = r) : V1 C ⟨dst, .binOp .lss t x y yt, ty, pos, after, guard⟩ e L (.bool r) := 
  V1.str hx hy (fun w => by subst h; rfl)

theorem V1.gtS {t yt : TypeId} {x y : Operand} {a b : ByteArray} {r : Bool} (hx : ev C.n e x = .string a) (hy : ev C.n e y = .string b) (h : (!(Op.bytesLess a.toList b.toList || decide (a = b))) = r) : V1 C ⟨dst, .binOp .gtr t x y yt, ty, pos, after, guard⟩ e L (.bool r) := 
  V1.str hx hy (fun w => by
    show Result.ok (Value.bool !(Op.bytesLess a.toList b.toList || (a.toList == b.toList))) w = _
    rw [ba_beq, h])

theorem run_eqB {P : Program} {t : TypeId} (hT : P.underlying t = some .bool) (a b : Bool) (w : World) : (Op.equal t (.bool a) (.bool b)).run P w = .ok (a == b) w := by
  unfold Op.equal Op.maxDepth Op.equalIn
  rw [run_bind (run_underlying hT w)]; rfl

theorem V1.eqB {t yt : TypeId} {x y : Operand} {a b r : Bool} (hT : C.P.underlying t = some .bool) (hx : ev C.n e x = .bool a) (hy : ev C.n e y = .bool b) (h : (a == b) = r) : V1 C ⟨dst, .binOp .eql t x y yt, ty, pos, after, guard⟩ e L (.bool r) := 
  V1.run (s := do eqGuard .eql t x y (ev C.n e x) (ev C.n e y); binOp .eql t (ev C.n e x) (ev C.n e y)) rfl (fun w _ => by
    rw [hx, hy]; subst h
    show (do pure (Value.bool (← Op.equal t (.bool a) (.bool b))) : Sem Value).run C.P w = _
    rw [run_bind (run_eqB hT a b w)]; rfl)

theorem V1.neB {t yt : TypeId} {x y : Operand} {a b r : Bool} (hT : C.P.underlying t = some .bool) (hx : ev C.n e x = .bool a) (hy : ev C.n e y = .bool b) (h : (!(a == b)) = r) : V1 C ⟨dst, .binOp .neq t x y yt, ty, pos, after, guard⟩ e L (.bool r) := 
  V1.run (s := do eqGuard .neq t x y (ev C.n e x) (ev C.n e y); binOp .neq t (ev C.n e x) (ev C.n e y)) rfl (fun w _ => by
    rw [hx, hy]; subst h
    show (do pure (Value.bool (!(← Op.equal t (.bool a) (.bool b)))) : Sem Value).run C.P w = _
    rw [run_bind (run_eqB hT a b w)]; rfl)

theorem V1.not {x : Operand} {t : TypeId} {b r : Bool} (hx : ev C.n e x = .bool b) (h : (!b) = r) : V1 C ⟨dst, .unOp .not t x, ty, pos, after, guard⟩ e L (.bool r) := 
  V1.run (s := Op.unary .not (ev C.n e x)) rfl (fun w _ => by rw [hx]; subst h; rfl)

theorem V1.compl {x : Operand} {t : TypeId} {kd : IntKind} {a c : Int} (hx : ev C.n e x = .int kd a) (h : bitop .xor kd (if kd.signed then -1 else kd.max) a = c) : V1 C ⟨dst, .unOp .xor t x, ty, pos, after, guard⟩ e L (.int kd c) := 
  V1.run (s := Op.unary .xor (ev C.n e x)) rfl (fun w _ => by rw [hx]; subst h; rfl)

theorem V1.neg {x : Operand} {t : TypeId} {kd : IntKind} {a c : Int} (hx : ev C.n e x = .int kd a) (h : kd.wrap (0 - a) = c) : V1 C ⟨dst, .unOp .neg t x, ty, pos, after, guard⟩ e L (.int kd c) := 
  V1.run (s := Op.unary .neg (ev C.n e x)) rfl (fun w _ => by rw [hx]; subst h; rfl)

theorem V1.conv {s d : TypeId} {x : Operand} {k1 k2 : IntKind} {ds : TypeDesc} {a c : Int} (hs : C.P.underlying s = some ds) (hd : C.P.underlying d = some (.int k2)) (hx : ev C.n e x = .int k1 a) (h : k2.wrap a = c) : V1 C ⟨dst, .convert s d x, ty, pos, after, guard⟩ e L (.int k2 c) := 
  V1.run (s := convert s d (ev C.n e x)) rfl (fun w _ => by
    rw [hx]; subst h
    unfold convert
    rw [run_bind (run_underlying hs w), run_bind (run_underlying hd w)]
    cases ds <;> rfl)

/-- A conversion between two types of strings, or of whatever is the same. -/
theorem V1.convS {s d : TypeId} {x : Operand} {a : ByteArray} {ds : TypeDesc} (hs : C.P.underlying s = some ds) (hd : C.P.underlying d = some .string) (hx : ev C.n e x = .string a) : V1 C ⟨dst, .convert s d x, ty, pos, after, guard⟩ e L (.string a) := 
  V1.run (s := convert s d (ev C.n e x)) rfl (fun w _ => by
    rw [hx]
    unfold convert
    rw [run_bind (run_underlying hs w), run_bind (run_underlying hd w)]
    cases ds <;> rfl)

/-! ### Lengths -/

theorem V1.builtin {b : Builtin} {args : List Operand} {ts : Array TypeId} {s : Sem Value} {v : Value} (ho : ∀ consts, Go.builtin b ts ty consts (args.map (ev C.n e)).toArray = (do pure (Next.value (← s)) : Sem Next)) (h : ∀ w, St C.w0 C.M L w → s.run C.P w = .ok v w) :
    V1 C ⟨dst, .call ⟨.builtin b, args.toArray, ts⟩, ty, pos, after, guard⟩ e L v :=
  V1.run (s := s) (by
    show Go.builtin b ts ty _ (args.toArray.map (ev C.n e)) = _
    rw [show args.toArray.map (ev C.n e) = (args.map (ev C.n e)).toArray from List.map_toArray ..]; exact ho _) h

theorem V1.lenSl {x : Operand} {t el : TypeId} {a : Option Addr} {n c : Nat} (hT : C.P.underlying t = some (.slice el)) (hx : ev C.n e x = .slice a n c) : V1 C ⟨dst, .call ⟨.builtin .len, #[x], #[t]⟩, ty, pos, after, guard⟩ e L (.int .i64 n) := 
  V1.builtin (args := [x]) (s := Builtin.len_ #[t] ty #[ev C.n e x]) (fun _ => rfl) (fun w _ => by
    rw [hx]
    show (do match ← underlying t, Value.slice a n c with | _, _ => _ : Sem Value).run C.P w = _
    rw [run_bind (run_underlying hT w)]; rfl)

theorem V1.lenS {x : Operand} {t : TypeId} {s : ByteArray} (hT : C.P.underlying t = some .string) (hx : ev C.n e x = .string s) : V1 C ⟨dst, .call ⟨.builtin .len, #[x], #[t]⟩, ty, pos, after, guard⟩ e L (.int .i64 s.size) := 
  V1.builtin (args := [x]) (s := Builtin.len_ #[t] ty #[ev C.n e x]) (fun _ => rfl) (fun w _ => by
    rw [hx]
    show (do match ← underlying t, Value.string s with | _, _ => _ : Sem Value).run C.P w = _
    rw [run_bind (run_underlying hT w)]; rfl)

theorem V1.lenA {x : Operand} {t el : TypeId} {n : Nat} (hT : C.P.underlying t = some (.array n el)) : V1 C ⟨dst, .call ⟨.builtin .len, #[x], #[t]⟩, ty, pos, after, guard⟩ e L (.int .i64 n) := 
  V1.builtin (args := [x]) (s := Builtin.len_ #[t] ty #[ev C.n e x]) (fun _ => rfl) (fun w _ => by
    show (do match ← underlying t, ev C.n e x with | _, _ => _ : Sem Value).run C.P w = _
    rw [run_bind (run_underlying hT w)]
    cases ev C.n e x <;> rfl)

theorem V1.capSl {x : Operand} {t el : TypeId} {a : Option Addr} {n c : Nat} (hT : C.P.underlying t = some (.slice el)) (hx : ev C.n e x = .slice a n c) : V1 C ⟨dst, .call ⟨.builtin .cap, #[x], #[t]⟩, ty, pos, after, guard⟩ e L (.int .i64 c) := 
  V1.builtin (args := [x]) (s := Builtin.cap_ #[t] ty #[ev C.n e x]) (fun _ => rfl) (fun w _ => by
    rw [hx]
    show (do match ← underlying t, Value.slice a n c with | _, _ => _ : Sem Value).run C.P w = _
    rw [run_bind (run_underlying hT w)]; rfl)

theorem V1.min2 {x y : Operand} {ts : Array TypeId} {kd : IntKind} {a b c : Int} (hx : ev C.n e x = .int kd a) (hy : ev C.n e y = .int kd b) (h : min a b = c) : V1 C ⟨dst, .call ⟨.builtin .min, #[x, y], ts⟩, ty, pos, after, guard⟩ e L (.int kd c) := 
  V1.builtin (args := [x, y]) (s := Builtin.min_ ts ty #[ev C.n e x, ev C.n e y]) (fun _ => rfl) (fun w _ => by
    rw [hx, hy]
    show Result.ok (Value.int kd (if b < a then b else a)) w = _
    have : (if b < a then b else a) = c := by subst h; simp only [Int.min_def]; split <;> split <;> omega
    rw [this])

theorem V1.max2 {x y : Operand} {ts : Array TypeId} {kd : IntKind} {a b c : Int} (hx : ev C.n e x = .int kd a) (hy : ev C.n e y = .int kd b) (h : max a b = c) : V1 C ⟨dst, .call ⟨.builtin .max, #[x, y], ts⟩, ty, pos, after, guard⟩ e L (.int kd c) := 
  V1.builtin (args := [x, y]) (s := Builtin.max_ ts ty #[ev C.n e x, ev C.n e y]) (fun _ => rfl) (fun w _ => by
    rw [hx, hy]
    have : ∃ r, (Builtin.max_ ts ty #[.int kd a, .int kd b]).run C.P w = Result.ok (Value.int kd r) w ∧ r = if a < b then b else a := ⟨_, rfl, rfl⟩
    obtain ⟨r, hr, rfl⟩ := this
    rw [hr]
    have : (if a < b then b else a) = c := by subst h; simp only [Int.max_def]; split <;> split <;> omega
    rw [this])

/-! ### Addresses, fields, elements -/

/-- Field f of struct type s lies 'off' cells behind its head and has cells. -/
def FieldIs (P : Program) (s : TypeId) (f off : Nat) : Prop := ∃ fields fl, P.underlying s = some (.struct fields) ∧ fields[f]? = some fl ∧ fl.offset = off ∧ ∃ k, SizeIs P fl.type (k + 1)

/-- Where a field lies and how many cells it has: to be asked of the kernel. -/
def fieldOf (P : Program) (s : TypeId) (f : Nat) : Option (Nat × Option Nat) :=
  match P.underlying s with
  | some (.struct fields) => (fields[f]?).map fun fl => (fl.offset, (P.info? fl.type).map TypeInfo.size)
  | _ => none

theorem FieldIs.of {P : Program} {s : TypeId} {f off k : Nat} (h : fieldOf P s f = some (off, some (k + 1))) : FieldIs P s f off := by
  unfold fieldOf at h
  split at h
  · rename_i fields hT
    obtain ⟨fl, h1, h2⟩ := Option.map_eq_some_iff.1 h
    simp only [Prod.mk.injEq] at h2
    exact ⟨fields, fl, hT, h1, h2.1, k, h2.2⟩
  · cases h

theorem V1.fieldAddr {s : TypeId} {x : Operand} {f off b o : Nat} (hf : FieldIs C.P s f off) (hx : ev C.n e x = .pointer (some ⟨b, o, none⟩)) : V1 C ⟨dst, .fieldAddr s x f, ty, pos, after, guard⟩ e L (.pointer (some ⟨b, o + off, none⟩)) := 
  V1.run (s := Instr.fieldAt s (ev C.n e x) f) rfl (fun w _ => by
    rw [hx]
    obtain ⟨fields, fl, hT, hfl, rfl, k, hk⟩ := hf
    unfold Instr.fieldAt
    rw [run_bind (run_underlying hT w)]
    simp only [hfl]
    show (do let a ← Instr.sureAddr (.pointer (some ⟨b, o, none⟩)); pure (Value.pointer (some (← fieldPlace a fl))) : Sem Value).run C.P w = _
    show (do pure (Value.pointer (some (← fieldPlace ⟨b, o, none⟩ fl))) : Sem Value).run C.P w = _
    have : (fieldPlace ⟨b, o, none⟩ fl).run C.P w = .ok ⟨b, o + fl.offset, none⟩ w := by
      unfold fieldPlace
      rw [run_bind (run_sizeOf hk w)]
      simp [addr_add, pure]
    rw [run_bind this]; rfl)

theorem V1.indexAddrA {t el : TypeId} {x y : Operand} {len k b o : Nat} {kd : IntKind} {i : Int} (hT : C.P.underlying t = some (.array len el)) (hk : SizeIs C.P el k) (hx : ev C.n e x = .pointer (some ⟨b, o, none⟩)) (hy : ev C.n e y = .int kd i) (h0 : 0 ≤ i) (h1 : i < len) : V1 C ⟨dst, .indexAddr t x y, ty, pos, after, guard⟩ e L (.pointer (some ⟨b, o + i.toNat * k, none⟩)) := 
  V1.run (s := Instr.indexAt t (ev C.n e x) (ev C.n e y)) rfl (fun w _ => by
    rw [hx, hy]
    unfold Instr.indexAt
    have ha : (asIntOf (.int kd i)).run C.P w = .ok (kd, i) w := rfl
    rw [run_bind ha]
    simp only
    rw [run_bind (run_underlying hT w)]
    simp only [Instr.sureAddr, pure_bind]
    rw [run_bind (run_underlying hT w)]
    simp only [h0, h1, and_self, if_true]
    rw [run_bind (run_sizeOf hk w), addr_add]; rfl)

theorem V1.indexAddrS {t el : TypeId} {x y : Operand} {len cap k b o : Nat} {kd : IntKind} {i : Int} (hT : C.P.underlying t = some (.slice el)) (hk : SizeIs C.P el k) (hx : ev C.n e x = .slice (some ⟨b, o, none⟩) len cap) (hy : ev C.n e y = .int kd i) (h0 : 0 ≤ i) (h1 : i < len) : V1 C ⟨dst, .indexAddr t x y, ty, pos, after, guard⟩ e L (.pointer (some ⟨b, o + i.toNat * k, none⟩)) := 
  V1.run (s := Instr.indexAt t (ev C.n e x) (ev C.n e y)) rfl (fun w _ => by
    rw [hx, hy]
    unfold Instr.indexAt
    have ha : (asIntOf (.int kd i)).run C.P w = .ok (kd, i) w := rfl
    rw [run_bind ha]
    simp only
    rw [run_bind (run_underlying hT w)]
    simp only [pure_bind]
    rw [run_bind (run_underlying hT w)]
    simp only [h0, h1, and_self, if_true]
    rw [run_bind (run_sizeOf hk w), addr_add]; rfl)

theorem V1.indexStr {t : TypeId} {x y : Operand} {s : ByteArray} {kd : IntKind} {i : Int} {c : UInt8} (hT : C.P.underlying t = some .string) (hx : ev C.n e x = .string s) (hy : ev C.n e y = .int kd i) (h0 : 0 ≤ i) (hc : s[i.toNat]? = some c) : V1 C ⟨dst, .index t x y, ty, pos, after, guard⟩ e L (.int .u8 c.toNat) := 
  V1.run (s := Instr.index t (ev C.n e x) (ev C.n e y)) rfl (fun w _ => by
    rw [hx, hy]
    unfold Instr.index
    have ha : (asIntOf (.int kd i)).run C.P w = .ok (kd, i) w := rfl
    rw [run_bind ha]
    simp only
    rw [run_bind (run_underlying hT w)]
    simp [h0, hc, pure])

theorem run_part1 {P : Program} {t : TypeId} {cs : Array Value} {o : Nat} {v : Value} (hT : OneT P t true) (h : cs[o]? = some v) (w : World) : (part t cs o).run P w = .ok v w := by
  unfold part
  rw [run_bind (run_isAgg hT w)]
  simp [h, pure]
theorem run_partN {P : Program} {t : TypeId} {cs : Array Value} {o k : Nat} (hT : OneT P t false) (hk : SizeIs P t k) (w : World) : (part t cs o).run P w = .ok (.agg (cs.extract o (o + k))) w := by
  unfold part
  rw [run_bind (run_isAgg hT w)]
  simp only [Bool.not_false, if_true]
  rw [run_bind (run_sizeOf hk w)]; rfl

/-- An element of an array's value. -/
theorem V1.indexA {t el : TypeId} {x y : Operand} {len k : Nat} {cs : Array Value} {kd : IntKind} {i : Int} {v : Value} (hT : C.P.underlying t = some (.array len el)) (hk : SizeIs C.P el k) (hx : ev C.n e x = .agg cs) (hy : ev C.n e y = .int kd i) (h0 : 0 ≤ i) (h1 : i < len)
    (hv : ∀ w, (part el cs (i.toNat * k)).run C.P w = .ok v w) : V1 C ⟨dst, .index t x y, ty, pos, after, guard⟩ e L v := 
  V1.run (s := Instr.index t (ev C.n e x) (ev C.n e y)) rfl (fun w _ => by
    rw [hx, hy]
    unfold Instr.index
    have ha : (asIntOf (.int kd i)).run C.P w = .ok (kd, i) w := rfl
    rw [run_bind ha]
    simp only
    rw [run_bind (run_underlying hT w)]
    simp only [h0, h1, and_self, if_true]
    rw [run_bind (run_sizeOf hk w)]; exact hv w)

theorem V1.field {s : TypeId} {x : Operand} {f : Nat} {fields : Array Field} {fl : Field} {cs : Array Value} {v : Value} (hT : C.P.underlying s = some (.struct fields)) (hf : fields[f]? = some fl) (hx : ev C.n e x = .agg cs) (hv : ∀ w, (part fl.type cs fl.offset).run C.P w = .ok v w) : V1 C ⟨dst, .field s x f, ty, pos, after, guard⟩ e L v := 
  V1.run (s := Instr.field s (ev C.n e x) f) rfl (fun w _ => by
    rw [hx]
    unfold Instr.field
    rw [run_bind (run_underlying hT w)]
    simp only [hf]
    have : (asAgg (.agg cs)).run C.P w = .ok cs w := rfl
    rw [run_bind this]; exact hv w)

theorem V1.s2ap {arr el : TypeId} {x : Operand} {n len cap : Nat} {a : Option Addr} (hT : C.P.underlying arr = some (.array n el)) (hx : ev C.n e x = .slice a len cap) (h : n ≤ len) : V1 C ⟨dst, .sliceToArrayPointer arr x, ty, pos, after, guard⟩ e L (.pointer a) := 
  V1.run (s := Instr.arrayAt arr (ev C.n e x)) rfl (fun w _ => by
    rw [hx]
    unfold Instr.arrayAt
    rw [run_bind (run_underlying hT w)]
    simp only [show ¬ len < n by omega, if_false]; rfl)

/-! ### Slicing -/

/-- An optional bound as a number. -/
def bd (n : Nat) (e : Env) : Option Operand → Nat → Option Int
  | none, d => some d
  | some x, _ => match ev n e x with | .int _ i => some i | _ => none

theorem run_sliceBound {P : Program} {kd : IntKind} {i : Int} {y : Nat} {c : BoundsCode} (h0 : 0 ≤ i) (h1 : i ≤ y) (w : World) : (Instr.sliceBound (.int kd i) y c).run P w = .ok i.toNat w := by
  unfold Instr.sliceBound
  have ha : (asIntOf (.int kd i)).run P w = .ok (kd, i) w := rfl
  rw [run_bind ha]
  simp [h0, h1, pure]

theorem run_sliceBounds {P : Program} {isS : Bool} {len cap : Nat} {lo hi : Option Operand} {n : Nat} {e : Env} {l h : Int} (hl : bd n e lo 0 = some l) (hh : bd n e hi len = some h) (h0 : 0 ≤ l) (h1 : l ≤ h) (h2 : h ≤ cap) (w : World) :
    (Instr.sliceBounds isS len cap (lo.map (ev n e)) (hi.map (ev n e)) none).run P w = .ok (l.toNat, h.toNat, cap) w := by
  have e3 : ∀ (lo : Option Operand), bd n e lo 0 = some l → ∀ (f : Nat → Sem (Nat × Nat × Nat)), (match lo.map (ev n e) with
      | some v => do let l ← Instr.sliceBound v h.toNat .sliceB; f l
      | none => do let l ← pure 0; f l : Sem (Nat × Nat × Nat)).run P w = (f l.toNat).run P w := by
    intro lo hl f
    cases lo with
    | none => simp only [bd, Option.some.injEq] at hl; subst hl; rfl
    | some x =>
      simp only [bd] at hl
      simp only [Option.map_some]
      generalize ev n e x = vx at hl ⊢
      cases vx <;> first | (cases hl; done) | skip
      simp only [Option.some.injEq] at hl; subst hl
      rw [run_bind (run_sliceBound h0 (by omega) w)]
  cases hi with
  | none =>
    simp only [bd, Option.some.injEq] at hh; subst hh
    exact (e3 lo hl (fun l => pure (l, len, cap)))
  | some x =>
    simp only [bd] at hh
    unfold Instr.sliceBounds
    simp only [Option.map_some]
    generalize ev n e x = vx at hh ⊢
    cases vx <;> first | (cases hh; done) | skip
    simp only [Option.some.injEq] at hh; subst hh
    have e1 : (pure cap : Sem Nat).run P w = .ok cap w := rfl
    rw [run_bind e1, run_bind (run_sliceBound (by omega) h2 w)]
    exact e3 lo hl (fun l => pure (l, _, cap))

theorem V1.sliceS {t : TypeId} {x : Operand} {lo hi : Option Operand} {s : ByteArray} {l h : Int} (hT : C.P.underlying t = some .string) (hx : ev C.n e x = .string s) (hl : bd C.n e lo 0 = some l) (hh : bd C.n e hi s.size = some h) (h0 : 0 ≤ l) (h1 : l ≤ h) (h2 : h ≤ s.size) : V1 C ⟨dst, .slice t x lo hi none, ty, pos, after, guard⟩ e L (.string (s.extract l.toNat h.toNat)) := 
  V1.run (s := Instr.sliceAt t (ev C.n e x) (lo.map (ev C.n e)) (hi.map (ev C.n e)) none) rfl (fun w _ => by
    rw [hx]
    unfold Instr.sliceAt
    rw [run_bind (run_underlying hT w)]
    show (Instr.slice t (.string s) _ _ none).run C.P w = _
    unfold Instr.slice
    rw [run_bind (run_underlying hT w)]
    simp only [Option.isSome_none, Bool.false_eq_true, if_false]
    show (do let (l, h, _) ← Instr.sliceBounds false s.size s.size _ _ none; pure (Value.string (s.extract l h)) : Sem Value).run C.P w = _
    rw [run_bind (run_sliceBounds hl hh h0 h1 h2 w)]; rfl)

theorem V1.sliceSl {t el : TypeId} {x : Operand} {lo hi : Option Operand} {b o len cap kz : Nat} {l h : Int} (hT : C.P.underlying t = some (.slice el)) (hk : SizeIs C.P el kz) (hx : ev C.n e x = .slice (some ⟨b, o, none⟩) len cap) (hl : bd C.n e lo 0 = some l) (hh : bd C.n e hi len = some h) (h0 : 0 ≤ l) (h1 : l ≤ h) (h2 : h ≤ cap) : V1 C ⟨dst, .slice t x lo hi none, ty, pos, after, guard⟩ e L (.slice (some ⟨b, if cap = l.toNat then o else o + l.toNat * kz, none⟩) (h.toNat - l.toNat) (cap - l.toNat)) := 
  V1.run (s := Instr.sliceAt t (ev C.n e x) (lo.map (ev C.n e)) (hi.map (ev C.n e)) none) rfl (fun w _ => by
    rw [hx]
    unfold Instr.sliceAt
    rw [run_bind (run_underlying hT w)]
    show (Instr.slice t (.slice (some ⟨b, o, none⟩) len cap) _ _ none).run C.P w = _
    unfold Instr.slice
    rw [run_bind (run_underlying hT w)]
    show (do let (l, h, m) ← Instr.sliceBounds true len cap _ _ none; let size ← sizeOf el; pure (Value.slice (if m = l then some ⟨b, o, none⟩ else (some ⟨b, o, none⟩ : Option Addr).map (·.add (l * size))) (h - l) (m - l)) : Sem Value).run C.P w = _
    rw [run_bind (run_sliceBounds hl hh h0 h1 h2 w)]
    simp only
    rw [run_bind (run_sizeOf hk w)]
    simp only [Option.map_some, addr_add, pure, Sem.run]
    split <;> rfl)

/-- A nil slice, sliced at nothing. -/
theorem V1.sliceNil {t el : TypeId} {x : Operand} {lo hi : Option Operand} {kz : Nat} (hT : C.P.underlying t = some (.slice el)) (hk : SizeIs C.P el kz) (hx : ev C.n e x = .slice none 0 0) (hl : bd C.n e lo 0 = some 0) (hh : bd C.n e hi 0 = some 0) : V1 C ⟨dst, .slice t x lo hi none, ty, pos, after, guard⟩ e L (.slice none 0 0) := 
  V1.run (s := Instr.sliceAt t (ev C.n e x) (lo.map (ev C.n e)) (hi.map (ev C.n e)) none) rfl (fun w _ => by
    rw [hx]
    unfold Instr.sliceAt
    rw [run_bind (run_underlying hT w)]
    show (Instr.slice t (.slice none 0 0) _ _ none).run C.P w = _
    unfold Instr.slice
    rw [run_bind (run_underlying hT w)]
    show (do let (l, h, m) ← Instr.sliceBounds true 0 0 _ _ none; let size ← sizeOf el; pure (Value.slice (if m = l then none else (none : Option Addr).map (·.add (l * size))) (h - l) (m - l)) : Sem Value).run C.P w = _
    rw [run_bind (run_sliceBounds hl hh (by omega) (by omega) (by simp) w)]
    simp only
    rw [run_bind (run_sizeOf hk w)]
    simp [pure])

/-- An array variable, sliced. -/
theorem V1.sliceA {t el : TypeId} {x : Operand} {lo hi : Option Operand} {b o n kz : Nat} {l h : Int} (hT : C.P.underlying t = some (.array n el)) (hk : SizeIs C.P el kz) (hx : ev C.n e x = .pointer (some ⟨b, o, none⟩)) (hl : bd C.n e lo 0 = some l) (hh : bd C.n e hi n = some h) (h0 : 0 ≤ l) (h1 : l ≤ h) (h2 : h ≤ n) : V1 C ⟨dst, .slice t x lo hi none, ty, pos, after, guard⟩ e L (.slice (some ⟨b, if n = l.toNat then o else o + l.toNat * kz, none⟩) (h.toNat - l.toNat) (n - l.toNat)) := 
  V1.run (s := Instr.sliceAt t (ev C.n e x) (lo.map (ev C.n e)) (hi.map (ev C.n e)) none) rfl (fun w _ => by
    rw [hx]
    unfold Instr.sliceAt
    rw [run_bind (run_underlying hT w)]
    show (do let a ← Instr.sureAddr (.pointer (some ⟨b, o, none⟩)); let (l, h, m) ← Instr.sliceBounds false n n _ _ none; let size ← sizeOf el; pure (Value.slice (some (if m = l then a else a.add (l * size))) (h - l) (m - l)) : Sem Value).run C.P w = _
    have ha : (Instr.sureAddr (.pointer (some ⟨b, o, none⟩))).run C.P w = .ok ⟨b, o, none⟩ w := rfl
    rw [run_bind ha, run_bind (run_sliceBounds hl hh h0 h1 h2 w)]
    simp only
    rw [run_bind (run_sizeOf hk w)]
    simp only [addr_add, pure, Sem.run]
    split <;> rfl)

/-! ### Structs and arrays put together -/

def PlacesAre (P : Program) (t : TypeId) (places : Array (Nat × Nat)) : Prop := ∃ fields : Array Field, P.underlying t = some (.struct fields) ∧ fields.map (fun f => (f.offset, (P.info? f.type).map TypeInfo.size)) = places.map (fun p => (p.1, some p.2))

def placesOf (P : Program) (t : TypeId) : Option (Array (Nat × Option Nat)) :=
  match P.underlying t with
  | some (.struct fields) => some (fields.map fun f => (f.offset, (P.info? f.type).map TypeInfo.size))
  | _ => none

theorem PlacesAre.of {P : Program} {t : TypeId} {places : Array (Nat × Nat)} (h : placesOf P t = some (places.map (fun p => (p.1, some p.2)))) : PlacesAre P t places := by
  unfold placesOf at h
  split at h
  · rename_i fields hT
    exact ⟨fields, hT, Option.some.inj h⟩
  · cases h

theorem run_mapM {P : Program} {α β : Type} (f : α → Sem β) (g : α → β) (w : World) : ∀ (l : List α), (∀ x ∈ l, (f x).run P w = .ok (g x) w) → (l.mapM f).run P w = .ok (l.map g) w := by
  intro l
  induction l with
  | nil => intro _; rfl
  | cons x l ih =>
    intro h
    rw [List.mapM_cons, run_bind (h x (by simp)), run_bind (ih (fun y hy => h y (by simp [hy])))]
    rfl

theorem run_places {P : Program} {fields : Array Field} {places : Array (Nat × Nat)} (h : fields.map (fun f => (f.offset, (P.info? f.type).map TypeInfo.size)) = places.map (fun p => (p.1, some p.2))) (w : World) :
    (fields.mapM (fun f => do pure (f.offset, ← sizeOf f.type)) : Sem (Array (Nat × Nat))).run P w = .ok places w := by
  obtain ⟨fl⟩ := fields
  obtain ⟨pl⟩ := places
  simp only [List.map_toArray, Array.mk.injEq] at h
  rw [List.mapM_toArray]
  have key : ∀ (fl : List Field) (pl : List (Nat × Nat)), fl.map (fun f => (f.offset, (P.info? f.type).map TypeInfo.size)) = pl.map (fun p => (p.1, some p.2)) →
      (fl.mapM (fun f => do pure (f.offset, ← sizeOf f.type)) : Sem (List (Nat × Nat))).run P w = .ok pl w := by
    intro fl
    induction fl with
    | nil => intro pl h; cases pl with | nil => rfl | cons _ _ => simp at h
    | cons f fl ih =>
      intro pl h
      cases pl with
      | nil => simp at h
      | cons p pl =>
        simp only [List.map_cons, List.cons.injEq, Prod.mk.injEq] at h
        obtain ⟨⟨h1, h2⟩, h3⟩ := h
        have e1 : (do pure (f.offset, ← sizeOf f.type) : Sem (Nat × Nat)).run P w = .ok p w := by
          rw [run_bind (run_sizeOf (k := p.2) h2 w)]; rw [h1]; rfl
        rw [List.mapM_cons, run_bind e1, run_bind (ih pl h3)]; rfl
  have := key fl pl h
  rw [map_eq_pure_bind, run_bind this]; rfl

end rules
end Go.Proofs.YtlpkcbkflfbclaaDoor.S
