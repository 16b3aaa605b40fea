/- What is put off until a function leaves ('defer'), and 'recover' where nothing panicked. Holds for every program. -/
import Derived.Test.YtlpkcbkflfbclaaGreatDoorOps9
import Derived.Recover
namespace Go.Proofs.YtlpkcbkflfbclaaGreatDoor.S
open Go.RowKit

/-- A body judged against any post. -/
def TG (C : Ctx) (c : Code) (R : Exit → Act → World → Prop) (e : Env) (L : List Blk) : Prop := ∀ a w, Rel C.n e a → St C.w0 C.M L w → c.wp C.P R a w
def TLG (C : Ctx) (ops : Array Oper) (R : Exit → Act → World → Prop) (l : List Oper) (e : Env) (L : List Blk) : Prop := ∀ a w, Rel C.n e a → St C.w0 C.M L w → wpList C.P ops R l a w
def goG (C : Ctx) (y : Code) (R : Exit → Act → World → Prop) : Post
  | .normal, e, L => TG C y R e L
  | _, _, _ => False
def nextG (P : Program) (y : Code) (R : Exit → Act → World → Prop) : Exit → Act → World → Prop
  | .normal, a, w => y.wp P R a w
  | x, a, w => R x a w
section
variable {C : Ctx} {R : Exit → Act → World → Prop} {e : Env} {L : List Blk}
theorem TG.seq {x y : Code} (h : T C x (goG C y R) e L) : TG C (.seq x y) R e L := by
  intro a w hr hs
  refine wp_seq (wp_mono (h a w hr hs) ?_)
  intro ex a' w' ⟨e', L', hr', hs', hq⟩
  cases ex with
  | normal => exact hq a' w' hr' hs'
  | _ => exact hq.elim
theorem TG.deferSeq {id : Nat} {l : List Oper} {y : Code} (h : TLG C l.toArray (nextG C.P y R) l e L) : TG C (.seq (.region id l.toArray false) y) R e L := by
  intro a w hr hs
  refine wp_seq (wp_mono (wp_region_lit (h a w hr hs)) ?_)
  intro ex a' w' hq
  cases ex <;> exact hq
theorem TLG.cons {ops : Array Oper} {o : Oper} {rest : List Oper} (hg : wantedE C.n ops e o.guard = true) (h : T1 C o (TLG C ops R rest) e L) : TLG C ops R (o :: rest) e L := by
  intro a w hr hs
  unfold wpList
  rw [wanted_eq hr, if_pos hg]
  exact .inl (h a w _ _ hr hs fun a' w' e' L' hr' hs' hK => hK a' w' hr' hs')
/-- The call that is put off: from here on the frame has it. -/
theorem TLG.defer {ops : Array Oper} {y : Code} {x : Operand} {f : FuncId} {cap : Array Value} {ts : Array TypeId} {dst : Option Tmp} {ty : TypeId} {pos : String} {after : Array Edge}
    (hx : ev C.n e x = .func (.func f) #[] cap) (h : TG { C with n := ⟨C.n.n, ⟨.fn (.func f) cap, #[]⟩ :: C.n.ds⟩ } y R (putO e dst undef) L) :
    TLG C ops (nextG C.P y R) [⟨dst, .defer ⟨.value x, #[], ts⟩, ty, pos, after, none⟩] e L := by
  intro a w hr hs
  unfold wpList
  rw [wanted_eq hr, if_pos (show wantedE C.n ops e none = true from rfl)]
  left
  unfold Oper.wp
  have hrun : (execOp a.eval ⟨dst, .defer ⟨.value x, #[], ts⟩, ty, pos, after, none⟩).run C.P w = .ok (.defer ⟨.fn (.func f) cap, #[]⟩) w := by
    show (do pure (Next.defer (← resolve a.eval ⟨.value x, #[], ts⟩ ty)) : Sem Next).run C.P w = _
    have : resolve a.eval ⟨.value x, #[], ts⟩ ty = pure ⟨.fn (.func f) cap, #[]⟩ := by
      show Deferred.ofValue (a.eval x) _ = _
      rw [hr.eval, hx]
      simp [Deferred.ofValue]
    rw [this]; rfl
  rw [hrun]
  show wpList C.P ops (nextG C.P y R) [] _ w
  have hr2 : Rel ⟨C.n.n, ⟨.fn (.func f) cap, #[]⟩ :: C.n.ds⟩ e { a with defers := ⟨.fn (.func f) cap, #[]⟩ :: a.defers } := ⟨by rw [hr.defers], hr.size, hr.get⟩
  exact h _ _ (hr2.put dst undef) hs
end

/-- What leaves a function. -/
def endG (w0 : World) (G : List Blk) (R : Value → List Blk → Prop) (en : Ending) (w' : World) : Prop := ∃ v Y, en = .returned v ∧ St w0 [] (Y ++ G) w' ∧ R v Y
theorem FnG.ofD {P : Program} {f : FuncId} {fn : Func} {c : Code} {as : List Value} {w0 : World} {Ps X : List Blk} {R : Value → List Blk → Prop} (n : Nat) (hf : P.funcs[f]? = some fn) (hb : fn.body = some c) (hnt : fn.ntmps = n) (hn : Nat.ble as.length n = true)
    (h : ∀ G, Inc Ps G → TG ⟨P, w0, [], n⟩ c (bodyPostD P fn (endG w0 G R)) (env0 as) (X ++ G)) : FnG P f as w0 Ps X R := by
  intro G w hG hst
  subst hnt
  exact calls_of_wp_defers hf hb (h G hG _ w (rel_start (Nat.le_of_ble_eq_true hn)) hst)

/-- A deferred call: what it gets, and what it leaves. -/
def FnD (P : Program) (f : FuncId) (as : List Value) (w0 : World) (Ps X Y : List Blk) : Prop :=
  ∀ G w, Inc Ps G → St w0 [] (X ++ G) w → CallsD P f as.toArray .returning w fun en u' w' => (∃ v, en = .returned v) ∧ u' = .returning ∧ St w0 [] (Y ++ G) w'
def DefC (C : Ctx) (d : Deferred) (L L1 : List Blk) : Prop :=
  ∃ fv cap f args, d.target = .fn fv cap ∧ (∀ w, (invoke d.target d.args).run C.P w = .ok (.enter f args) w) ∧ ∀ w, St C.w0 C.M L w → CallsD C.P f args .returning w fun en u' w' => (∃ v, en = .returned v) ∧ u' = .returning ∧ St C.w0 C.M L1 w'
theorem DefC.of {P : Program} {w0 : World} {n : FrS} {f : FuncId} {as : List Value} {Ps X Y L G : List Blk} (hf : Has P f) (h : FnD P f as w0 Ps X Y) (ht : Take L X G) (hi : Inc Ps G) : DefC ⟨P, w0, [], n⟩ ⟨.fn (.func f) as.toArray, #[]⟩ L (Y ++ G) :=
  ⟨.func f, as.toArray, f, as.toArray, rfl, fun w => by
    show (callFunc f (#[] ++ as.toArray)).run P w = _
    rw [Array.empty_append]
    exact run_callFunc hf _ w, fun w hs => h G w hi (hs.perm ht.perm.symm)⟩
/-- What a body must come to that has put off one call. -/
def endsD (C : Ctx) (d : Deferred) (rs : List ResultVar) (R : Value → List Blk → Prop) : Post
  | .normal, e, L | .ret, e, L => ∃ L1, DefC C d L L1 ∧ ∃ vs L' G, Ress C e L1 rs vs ∧ Take L1 L' G ∧ R (res1 vs) L'
  | _, _, _ => False
theorem TG.leave {P : Program} {w0 : World} {k : Nat} {d : Deferred} {fn : Func} {y : Code} {rs : List ResultVar} {G : List Blk} {R : Value → List Blk → Prop} {e : Env} {L : List Blk} (hrs : fn.results = rs.toArray)
    (h : T ⟨P, w0, [], ⟨k, [d]⟩⟩ y (endsD ⟨P, w0, [], ⟨k, [d]⟩⟩ d rs (fun v L' => ∃ Y, L' = Y ++ G ∧ R v Y)) e L) : TG ⟨P, w0, [], ⟨k, [d]⟩⟩ y (bodyPostD P fn (endG w0 G R)) e L := by
  intro a w hr hs
  refine wp_mono (h a w hr hs) ?_
  have key : ∀ (a' : Act) (w' : World) (e' : Env) (L' : List Blk), Rel ⟨k, [d]⟩ e' a' → St w0 [] L' w' → (∃ L1, DefC ⟨P, w0, [], ⟨k, [d]⟩⟩ d L' L1 ∧ ∃ vs L2 G2, Ress ⟨P, w0, [], ⟨k, [d]⟩⟩ e' L1 rs vs ∧ Take L1 L2 G2 ∧ ∃ Y, L2 = Y ++ G ∧ R (res1 vs) Y) →
      Leaves P fn a'.tmps (endG w0 G R) a'.defers .returning w' := by
    rintro a' w' e' L' hr' hs' ⟨L1, ⟨fv, cap, f, args, ht, hi, hc⟩, vs, L2, G2, h1, hk, Y, rfl, h2⟩
    rw [hr'.defers]
    refine ⟨by simp, fv, cap, f, args, ht, hi w', ?_⟩
    refine (hc w' hs').mono ?_
    rintro en u' w'' ⟨⟨v, rfl⟩, rfl, hs''⟩
    exact ⟨_, run_res (C := ⟨P, w0, [], ⟨k, [d]⟩⟩) hrs hr' hs'' h1, _, Y, rfl, hk.keep hs'', h2⟩
  intro ex a' w' ⟨e', L', hr', hs', hq⟩
  cases ex with
  | normal => exact key a' w' e' L' hr' hs' hq
  | ret => exact key a' w' e' L' hr' hs' hq
  | _ => exact hq.elim
/-- A deferred call that does not ask for a panic. -/
theorem FnD.of {P : Program} {f : FuncId} {fn : Func} {c : Code} {as : List Value} {w0 : World} {Ps X Y : List Blk} (n : Nat) (rs : List ResultVar) (hf : P.funcs[f]? = some fn) (hb : fn.body = some c) (hnt : fn.ntmps = n) (hrs : fn.results = rs.toArray) (hn : Nat.ble as.length n = true)
    (h : ∀ G, Inc Ps G → T ⟨P, w0, [], n⟩ c (ends ⟨P, w0, [], n⟩ rs (fun _ L' => L' = Y ++ G)) (env0 as) (X ++ G)) : FnD P f as w0 Ps X Y := by
  intro G w hG hst
  subst hnt
  have h1 := h G hG { tmps := as.toArray ++ Array.replicate (fn.ntmps - as.toArray.size) undef, defers := [] } w (rel_start (Nat.le_of_ble_eq_true hn)) hst
  refine (callsD_of_wp (R := fun en w' => (∃ v, en = .returned v) ∧ St w0 [] (Y ++ G) w') hf hb ?_).mono fun en u' w' h => ⟨h.2.1, h.1, h.2.2⟩
  refine wp_mono h1 ?_
  intro ex a w' ⟨e', L', hr', hs', hq⟩
  cases ex with
  | normal =>
    obtain ⟨vs, L2, G2, h1, hk, rfl⟩ := hq
    exact ⟨hr'.defers, _, run_res (C := ⟨P, w0, [], fn.ntmps⟩) hrs hr' hs' h1, ⟨_, rfl⟩, hk.keep hs'⟩
  | ret =>
    obtain ⟨vs, L2, G2, h1, hk, rfl⟩ := hq
    exact ⟨hr'.defers, _, run_res (C := ⟨P, w0, [], fn.ntmps⟩) hrs hr' hs' h1, ⟨_, rfl⟩, hk.keep hs'⟩
  | _ => exact hq.elim

/-! ### A deferred call that asks for a panic -/
def postS (C : Ctx) (cs : List Frame) (Q : Post) : Exit → Act → List Frame → World → Prop := fun x a cs' w => cs' = cs ∧ lift C Q x a w
def TS (C : Ctx) (c : Code) (cs : List Frame) (Q : Post) (e : Env) (L : List Blk) : Prop := ∀ a w, Rel C.n e a → St C.w0 C.M L w → c.wpS C.P (postS C cs Q) a cs w
def TLS (C : Ctx) (ops : Array Oper) (cs : List Frame) (Q : Post) (idx : List Nat) (e : Env) (L : List Blk) : Prop := ∀ a w, Rel C.n e a → St C.w0 C.M L w → wpOpsS C.P ops (postS C cs Q) idx a cs w
section
variable {C : Ctx} {cs : List Frame} {Q : Post} {e : Env} {L : List Blk}
theorem wpS_mono {P : Program} {c : Code} {Q Q' : Exit → Act → List Frame → World → Prop} {a : Act} {cs : List Frame} {w : World} (h : c.wpS P Q a cs w) (hq : ∀ x a cs w, Q x a cs w → Q' x a cs w) : c.wpS P Q' a cs w :=
  fun b k hb hr => let ⟨e, a', cs', w', q, r⟩ := h b k hb hr; ⟨e, a', cs', w', hq _ _ _ _ q, r⟩
theorem TS.of {c : Code} (h : T C c Q e L) : TS C c cs Q e L := fun a w hr hs => wpS_of_wp (wp_mono (h a w hr hs) fun _ _ _ hq => ⟨rfl, hq⟩)
theorem TS.seq {x y : Code} (h : TS C x cs (thn C y Q) e L) : TS C (.seq x y) cs Q e L := by
  intro a w hr hs
  refine wpS_seq (wpS_mono (h a w hr hs) ?_)
  rintro ex a' cs' w' ⟨rfl, e', L', hr', hs', hq⟩
  cases ex with
  | normal => exact TS.of hq a' w' hr' hs'
  | _ => exact ⟨rfl, e', L', hr', hs', hq⟩
theorem TS.region {id : Nat} {ops : Array Oper} (idx : List Nat) (hx : List.range ops.size = idx) (h : TLS C ops cs Q idx e L) : TS C (.region id ops false) cs Q e L :=
  fun a w hr hs => wpS_region (by rw [hx]; exact h a w hr hs)
theorem TLS.nil {ops : Array Oper} (h : Q .normal e L) : TLS C ops cs Q [] e L := fun _ _ hr hs => ⟨rfl, e, L, hr, hs, h⟩
theorem TLS.cons {ops : Array Oper} {i : Nat} {o : Oper} {rest : List Nat} (ho : ops[i]? = some o) (hg : wantedE C.n ops e o.guard = true) (h : T1 C o (TLS C ops cs Q rest) e L) : TLS C ops cs Q (i :: rest) e L := by
  intro a w hr hs
  unfold wpOpsS
  rw [ho]
  simp only
  rw [wanted_eq hr, if_pos hg]
  have h1 := h a w (fun a' w' => wpOpsS C.P ops (postS C cs Q) rest a' cs w') (fun x a w => postS C cs Q x a cs w) hr hs fun a' w' e' L' hr' hs' hK => hK a' w' hr' hs'
  unfold Oper.wp at h1
  split
  · rename_i w' hrun; rw [hrun] at h1; exact h1.elim
  · exact h1
theorem TLS.recover {ops : Array Oper} {i : Nat} {dst : Option Tmp} {ts : Array TypeId} {ty : TypeId} {pos : String} {after : Array Edge} {rest : List Nat} (ho : ops[i]? = some ⟨dst, .call ⟨.builtin .recover, #[], ts⟩, ty, pos, after, none⟩) (hc : recoverD cs = none) (h : TLS C ops cs Q rest (putO e dst .nilIface) L) : TLS C ops cs Q (i :: rest) e L := by
  intro a w hr hs
  unfold wpOpsS
  rw [ho]
  simp only
  rw [wanted_eq hr, if_pos (show wantedE C.n ops e none = true from rfl)]
  have hrun : (execOp a.eval ⟨dst, .call ⟨.builtin .recover, #[], ts⟩, ty, pos, after, none⟩).run C.P w = .ok .recover w := rfl
  rw [hrun]
  simp only
  rw [hc]
  exact h _ _ (hr.put dst .nilIface) hs
/-- A type asserted of nothing. -/
theorem V1.assertNil {x : Operand} {xt at_ : TypeId} {fs : Array Field} {z : Value} {dst : Option Tmp} {ty : TypeId} {pos : String} {after : Array Edge} {guard : Option (Nat × Bool)} (hT : C.P.underlying at_ = some (.struct fs)) (hz : ZeroIs C.P at_ z) (hx : ev C.n e x = .nilIface) :
    V1 C ⟨dst, .typeAssert x xt at_ true, ty, pos, after, guard⟩ e L (.tuple #[z, .bool false]) :=
  V1.run (s := Instr.typeAssert (ev C.n e x) xt at_ true) rfl fun w _ => by
    rw [hx]
    unfold Instr.typeAssert
    rw [run_bind (run_underlying hT w)]
    show (do pure (Value.tuple #[← zeroValue at_, .bool false]) : Sem Value).run C.P w = _
    rw [run_bind (run_zeroValue hz w)]; rfl
end
theorem FnD.ofS {P : Program} {f : FuncId} {fn : Func} {c : Code} {as : List Value} {w0 : World} {Ps X Y : List Blk} (n : Nat) (rs : List ResultVar) (hf : P.funcs[f]? = some fn) (hb : fn.body = some c) (hnt : fn.ntmps = n) (hrs : fn.results = rs.toArray) (hn : Nat.ble as.length n = true)
    (h : ∀ G cs, Inc Ps G → recoverD cs = none → TS ⟨P, w0, [], n⟩ c cs (ends ⟨P, w0, [], n⟩ rs (fun _ L' => L' = Y ++ G)) (env0 as) (X ++ G)) : FnD P f as w0 Ps X Y := by
  intro G w hG hst
  subst hnt
  refine callsD_of_wpS hf hb fun c₀ cs hm => ?_
  have hrec : recoverD (c₀ :: cs) = none := by simp [recoverD, hm]
  refine wpS_mono (h G (c₀ :: cs) hG hrec _ w (rel_start (Nat.le_of_ble_eq_true hn)) hst) ?_
  have hc0 : (c₀ :: cs) = { c₀ with mode := .returning } :: cs := by rw [← hm]
  rintro ex a cs' w' ⟨rfl, e', L', hr', hs', hq⟩
  cases ex with
  | normal =>
    obtain ⟨vs, L2, G2, h1, hk, rfl⟩ := hq
    exact ⟨hr'.defers, .returning, hc0, _, run_res (C := ⟨P, w0, [], fn.ntmps⟩) hrs hr' hs' h1, ⟨_, rfl⟩, rfl, hk.keep hs'⟩
  | ret =>
    obtain ⟨vs, L2, G2, h1, hk, rfl⟩ := hq
    exact ⟨hr'.defers, .returning, hc0, _, run_res (C := ⟨P, w0, [], fn.ntmps⟩) hrs hr' hs' h1, ⟨_, rfl⟩, rfl, hk.keep hs'⟩
  | _ => exact hq.elim
end Go.Proofs.YtlpkcbkflfbclaaGreatDoor.S
