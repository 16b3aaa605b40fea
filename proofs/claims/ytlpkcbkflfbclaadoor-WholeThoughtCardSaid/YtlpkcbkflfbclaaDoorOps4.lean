/- Stores in forms that keep the lists of cells written out; equality of arrays; regions that draw their order. Holds for every program. -/
import Derived.Test.YtlpkcbkflfbclaaDoorOps3
namespace Go.Proofs.YtlpkcbkflfbclaaDoor.S
open Go.RowKit

/-- A list with one of its elements turned. -/
inductive SetAt : List Value → Nat → Value → List Value → Prop
  | here {x v : Value} {l : List Value} : SetAt (x :: l) 0 v (v :: l)
  | there {x v : Value} {l l' : List Value} {n : Nat} : SetAt l n v l' → SetAt (x :: l) (n + 1) v (x :: l')

theorem SetAt.eq {l l' : List Value} {n : Nat} {v : Value} (h : SetAt l n v l') : n < l.length ∧ putN l n [v] = l' := by
  induction h with
  | here => exact ⟨by simp, by simp [putN]⟩
  | there _ ih => exact ⟨by simp [ih.1], by have := ih.2; simp only [putN, List.length_singleton] at this ⊢; rw [← this]; simp⟩

theorem cells_one {v : Value} (h : one v = true) : v.cells = #[v] := by cases v <;> first | (cases h; done) | rfl

section rules
variable {C : Ctx} {K : Env → List Blk → Prop} {e : Env} {L : List Blk}
variable {dst : Option Tmp} {ty : TypeId} {pos : String} {after : Array Edge} {guard : Option (Nat × Bool)}

theorem T1.alloc1 {elem : TypeId} {z : Value} (hz : ZeroIs C.P elem z) (h1 : one z = true) (k : ∀ b, K (putO e dst (.pointer (some ⟨b, 0, none⟩))) (⟨b, 0, [z], 1⟩ :: L)) : T1 C ⟨dst, .alloc elem, ty, pos, after, guard⟩ K e L :=
  T1.alloc hz fun b => by rw [cells_one h1]; exact k b
theorem T1.allocN {elem : TypeId} {zl : List Value} (n : Nat) (hz : ZeroIs C.P elem (.agg zl.toArray)) (hn : zl.length = n) (k : ∀ b, K (putO e dst (.pointer (some ⟨b, 0, none⟩))) (⟨b, 0, zl, n⟩ :: L)) : T1 C ⟨dst, .alloc elem, ty, pos, after, guard⟩ K e L :=
  T1.alloc hz fun b => by have := k b; simpa [Value.cells, hn] using this
theorem T1.box1 {elem : TypeId} {x : Operand} {v : Value} (hv : ev C.n e x = v) (h1 : one v = true) (k : ∀ b, K (putO e dst (.pointer (some ⟨b, 0, none⟩))) (⟨b, 0, [v], 1⟩ :: L)) : T1 C ⟨dst, .box elem x, ty, pos, after, guard⟩ K e L :=
  T1.box hv fun b => by rw [cells_one h1]; exact k b
theorem T1.boxN {elem : TypeId} {x : Operand} {vs : List Value} (n : Nat) (hv : ev C.n e x = .agg vs.toArray) (hn : vs.length = n) (k : ∀ b, K (putO e dst (.pointer (some ⟨b, 0, none⟩))) (⟨b, 0, vs, n⟩ :: L)) : T1 C ⟨dst, .box elem x, ty, pos, after, guard⟩ K e L :=
  T1.box hv fun b => by have := k b; simpa [Value.cells, hn] using this

/-- One cell of a block whose cells are written out. -/
theorem T1.store1 {t : TypeId} {x y : Operand} {b o off size : Nat} {tg : Option TypeId} {cells cells' : List Value} {L' : List Blk} {v : Value} (hp : ev C.n e x = .pointer (some ⟨b, o, none⟩)) (hv : ev C.n e y = v) (hk : SizeIs C.P t 1) (hone : one v = true)
    (hu : Sub L [⟨⟨b, tg⟩, off, cells, size⟩] L' [⟨⟨b, tg⟩, off, cells', size⟩]) (h1 : off ≤ o) (hset : SetAt cells (o - off) v cells') (k : K (putO e dst undef) L') : T1 C ⟨dst, .store t x y, ty, pos, after, guard⟩ K e L := by
  have hc := cells_one hone
  obtain ⟨s1, s2⟩ := hset.eq
  refine T1.store (tg := tg) (cells := cells) (off := off) (size := size) hp hv (by rw [hc]; exact hk) h1 (by rw [hc]; simp; omega) (by rw [hc]; simpa using hone) (L' := L') ?_ k
  rw [hc]; simp only; rw [s2]; exact hu

/-- One cell at a place that is a number of the text's own. -/
theorem T1.storeI {t : TypeId} {x y : Operand} {b o off size : Nat} {tg : Option TypeId} {cells : List Value} {L' : List Blk} {v : Value} (hp : ev C.n e x = .pointer (some ⟨b, o, none⟩)) (hv : ev C.n e y = v) (hk : SizeIs C.P t 1) (hone : one v = true)
    (hu : Sub L [⟨⟨b, tg⟩, off, cells, size⟩] L' [⟨⟨b, tg⟩, off, cells.set (o - off) v, size⟩]) (h1 : off ≤ o) (h2 : o < off + cells.length) (k : K (putO e dst undef) L') : T1 C ⟨dst, .store t x y, ty, pos, after, guard⟩ K e L := by
  have hc := cells_one hone
  refine T1.store (tg := tg) (cells := cells) (off := off) (size := size) hp hv (by rw [hc]; exact hk) h1 (by rw [hc]; simp; omega) (by rw [hc]; simpa using hone) (L' := L') ?_ k
  rw [hc]
  have : putN cells (o - off) #[v].toList = cells.set (o - off) v := by
    apply List.ext_getElem?
    intro i
    rw [putN_get (by simp; omega), List.getElem?_set]
    by_cases hi : o - off = i
    · subst hi; simp; omega
    · rw [if_neg (by simp; omega), if_neg hi]
  rw [this]; exact hu

/-- A whole variable of many cells. -/
theorem T1.storeN {t : TypeId} {x y : Operand} {b size k : Nat} {tg : Option TypeId} {cells vs : List Value} {L' : List Blk} (hp : ev C.n e x = .pointer (some ⟨b, 0, none⟩)) (hv : ev C.n e y = .agg vs.toArray) (hk : SizeIs C.P t k) (hone : ∀ u ∈ vs, one u = true)
    (hu : Sub L [⟨⟨b, tg⟩, 0, cells, size⟩] L' [⟨⟨b, tg⟩, 0, vs, size⟩]) (hl : vs.length = cells.length) (hlk : vs.length = k) (kk : K (putO e dst undef) L') : T1 C ⟨dst, .store t x y, ty, pos, after, guard⟩ K e L := by
  refine T1.store (tg := tg) (cells := cells) (off := 0) (size := size) hp hv (by subst hlk; simpa [Value.cells] using hk) (Nat.le_refl 0) (by simp [Value.cells, hl]) (by simpa [Value.cells] using hone) (L' := L') ?_ kk
  have : putN cells 0 vs = vs := by simp [putN, hl]
  simp only [Value.cells, Nat.sub_self]
  rw [this]; exact hu

/-- Cells in the midst of a block. -/
theorem T1.storeM {t : TypeId} {x y : Operand} {b o off size k : Nat} {tg : Option TypeId} {cells vs : List Value} {L' : List Blk} (hp : ev C.n e x = .pointer (some ⟨b, o, none⟩)) (hv : ev C.n e y = .agg vs.toArray) (hk : SizeIs C.P t k) (hone : ∀ u ∈ vs, one u = true)
    (hu : Sub L [⟨⟨b, tg⟩, off, cells, size⟩] L' [⟨⟨b, tg⟩, off, putN cells (o - off) vs, size⟩]) (h1 : off ≤ o) (h2 : o + vs.length ≤ off + cells.length) (hlk : vs.length = k) (kk : K (putO e dst undef) L') : T1 C ⟨dst, .store t x y, ty, pos, after, guard⟩ K e L := by
  exact T1.store hp hv (by subst hlk; simpa [Value.cells] using hk) h1 (by simpa [Value.cells] using h2) (by simpa [Value.cells] using hone) (L' := L') (by simpa [Value.cells] using hu) kk

/-! ### Equality of arrays of numbers -/

theorem run_eqInt {P : Program} {t : TypeId} {kd : IntKind} {d : Nat} (hT : P.underlying t = some (.int kd)) (a b : Int) (w : World) : (Op.equalIn (d + 1) t (.int kd a) (.int kd b)).run P w = .ok (a == b) w := by
  unfold Op.equalIn
  rw [run_bind (run_underlying hT w)]
  simp [pure]

theorem run_eqArr {P : Program} {t el : TypeId} {kd : IntKind} {n : Nat} (hT : P.underlying t = some (.array n el)) (hE : P.underlying el = some (.int kd)) (hk : SizeIs P el 1) (xs ys : List Int) (hx : xs.length = n) (hy : ys.length = n) (w : World) :
    (Op.equal t (.agg (xs.map (Value.int kd)).toArray) (.agg (ys.map (Value.int kd)).toArray)).run P w = .ok (decide (xs = ys)) w := by
  unfold Op.equal Op.maxDepth
  unfold Op.equalIn
  rw [run_bind (run_underlying hT w)]
  simp only
  rw [run_bind (run_sizeOf hk w)]
  simp only [Nat.mul_one, Std.Legacy.Range.forIn_eq_forIn_range', Std.Legacy.Range.size]
  have hone : OneT P el true := by unfold OneT; rw [hE]; rfl
  have key : ∀ (m i : Nat), i + m = n → ∀ (f : Nat → Option Bool × Unit → Sem (ForInStep (Option Bool × Unit))),
      (∀ j, j < n → (f j (none, ())).run P w = .ok (if xs[j]? = ys[j]? then .yield (none, ()) else .done (some false, ())) w) →
      (forIn (List.range' i m 1) ((none, ()) : Option Bool × Unit) f).run P w = .ok (if xs.drop i = ys.drop i then (none, ()) else (some false, ())) w := by
    intro m
    induction m with
    | zero =>
      intro i hi f _
      rw [List.drop_eq_nil_of_le (by omega), List.drop_eq_nil_of_le (by omega)]
      simp [pure]
    | succ m ih =>
      intro i hi f hf
      rw [List.range'_succ, List.forIn_cons, run_bind (hf i (by omega))]
      have hxi : i < xs.length := by omega
      have hyi : i < ys.length := by omega
      rw [List.drop_eq_getElem_cons hxi, List.drop_eq_getElem_cons hyi]
      rw [List.getElem?_eq_getElem hxi, List.getElem?_eq_getElem hyi]
      by_cases hc : xs[i] = ys[i]
      · rw [if_pos (by rw [hc])]
        simp only [hc, List.cons.injEq, true_and]
        exact ih (i + 1) (by omega) f hf
      · rw [if_neg (by simpa using hc)]
        rw [if_neg (by intro h; exact hc (List.cons.inj h).1)]
        simp [pure]
  have hstep : ∀ j, j < n → ((do
      if !(← Op.equalIn 9999 el (← part el (xs.map (Value.int kd)).toArray j) (← part el (ys.map (Value.int kd)).toArray j)) then pure (ForInStep.done ((some false, ()) : Option Bool × Unit))
      else pure (ForInStep.yield (none, ()))) : Sem (ForInStep (Option Bool × Unit))).run P w = .ok (if xs[j]? = ys[j]? then .yield (none, ()) else .done (some false, ())) w := by
    intro j hj
    have h1 : (part el (xs.map (Value.int kd)).toArray j).run P w = .ok (.int kd (xs[j]'(by omega))) w := run_part1 hone (by simp [show j < xs.length by omega]) w
    have h2 : (part el (ys.map (Value.int kd)).toArray j).run P w = .ok (.int kd (ys[j]'(by omega))) w := run_part1 hone (by simp [show j < ys.length by omega]) w
    rw [run_bind h1, run_bind h2, run_bind (run_eqInt hE _ _ w)]
    rw [List.getElem?_eq_getElem (by omega : j < xs.length), List.getElem?_eq_getElem (by omega : j < ys.length)]
    by_cases hc : xs[j]'(by omega) = ys[j]'(by omega) <;> simp [hc, pure]
  have := key n 0 (by omega) (fun j _ => do
      if !(← Op.equalIn 9999 el (← part el (xs.map (Value.int kd)).toArray j) (← part el (ys.map (Value.int kd)).toArray j)) then pure (ForInStep.done ((some false, ()) : Option Bool × Unit))
      else pure (ForInStep.yield (none, ()))) hstep
  simp only [List.drop_zero] at this
  rw [show (n - 0 + 1 - 1) / 1 = n by omega, run_bind this]
  by_cases hc : xs = ys <;> simp [hc, pure]

/-- '==' of two arrays of numbers. -/
theorem V1.eqA {t el yt : TypeId} {x y : Operand} {kd : IntKind} {n : Nat} {xs ys : List Int} {r : Bool} (hT : C.P.underlying t = some (.array n el)) (hE : C.P.underlying el = some (.int kd)) (hk : SizeIs C.P el 1) (hg : Program.eqGuardType C.P C.P.depth t = false)
    (hx : ev C.n e x = .agg (xs.map (Value.int kd)).toArray) (hy : ev C.n e y = .agg (ys.map (Value.int kd)).toArray) (hxl : xs.length = n) (hyl : ys.length = n) (h : decide (xs = ys) = r) : V1 C ⟨dst, .binOp .eql t x y yt, ty, pos, after, guard⟩ e L (.bool r) := 
  V1.run (s := do eqGuard .eql t x y (ev C.n e x) (ev C.n e y); binOp .eql t (ev C.n e x) (ev C.n e y)) rfl (fun w _ => by
    rw [hx, hy]; subst h
    have h1 : (eqGuard .eql t x y (.agg (xs.map (Value.int kd)).toArray) (.agg (ys.map (Value.int kd)).toArray)).run C.P w = .ok () w := by
      simp [eqGuard, program, bind, Sem.bind, pure, Sem.run, hg]
    rw [run_bind h1]
    show (do pure (Value.bool (← Op.equal t (.agg (xs.map (Value.int kd)).toArray) (.agg (ys.map (Value.int kd)).toArray))) : Sem Value).run C.P w = _
    rw [run_bind (run_eqArr hT hE hk xs ys hxl hyl w)]; rfl)

theorem V1.neA {t el yt : TypeId} {x y : Operand} {kd : IntKind} {n : Nat} {xs ys : List Int} {r : Bool} (hT : C.P.underlying t = some (.array n el)) (hE : C.P.underlying el = some (.int kd)) (hk : SizeIs C.P el 1) (hg : Program.eqGuardType C.P C.P.depth t = false)
    (hx : ev C.n e x = .agg (xs.map (Value.int kd)).toArray) (hy : ev C.n e y = .agg (ys.map (Value.int kd)).toArray) (hxl : xs.length = n) (hyl : ys.length = n) (h : decide (xs ≠ ys) = r) : V1 C ⟨dst, .binOp .neq t x y yt, ty, pos, after, guard⟩ e L (.bool r) := 
  V1.run (s := do eqGuard .neq t x y (ev C.n e x) (ev C.n e y); binOp .neq t (ev C.n e x) (ev C.n e y)) rfl (fun w _ => by
    rw [hx, hy]; subst h
    have h1 : (eqGuard .neq t x y (.agg (xs.map (Value.int kd)).toArray) (.agg (ys.map (Value.int kd)).toArray)).run C.P w = .ok () w := by
      simp [eqGuard, program, bind, Sem.bind, pure, Sem.run, hg]
    rw [run_bind h1]
    show (do pure (Value.bool (!(← Op.equal t (.agg (xs.map (Value.int kd)).toArray) (.agg (ys.map (Value.int kd)).toArray)))) : Sem Value).run C.P w = _
    rw [run_bind (run_eqArr hT hE hk xs ys hxl hyl w)]
    by_cases hc : xs = ys <;> simp [hc, pure])

/-! ### Regions that draw their order -/

/-- One operation of such a region: its guard first. -/
def Tg (C : Ctx) (ops : Array Oper) (o : Oper) (K : Env → List Blk → Prop) (e : Env) (L : List Blk) : Prop :=
  (wantedE C.n ops e o.guard = true → T1 C o K e L) ∧ (wantedE C.n ops e o.guard = false → K (putO e o.dst undef) L)

/-- Whatever order is picked from here on, S being so behind every operation. -/
def TD (C : Ctx) (S : List Blk → Prop) (ops : Array Oper) (Q : Post) (fuel : Nat) (listed : Array Bool) (e : Env) (L : List Blk) : Prop :=
  ∀ a w, Rel C.n e a → St C.w0 C.M L w → S L → wpAnyH C.P .any ops (lift C Q) (fun w => ∃ L, St C.w0 C.M L w ∧ S L) fuel listed a w

theorem T.draw {id : Nat} {l : List Oper} {Q : Post} (S : List Blk → Prop) (hm : C.P.follows .mixedOrders = true) (hS : S L) (h : TD C S l.toArray Q l.toArray.size (Array.replicate l.toArray.size false) e L) : T C (.region id l.toArray true) Q e L :=
  fun a _ hr hs => wp_region_held hm (h a _ hr (hs.drew _ (Nat.le_succ _)) hS)

theorem TD.done {S : List Blk → Prop} {ops : Array Oper} {Q : Post} {fuel : Nat} {listed : Array Bool} (hr : Region.ready .any ops listed = []) (h : Q .normal e L) : TD C S ops Q fuel listed e L :=
  fun _ _ hrel hs _ => wpAnyH_done hr ⟨e, L, hrel, hs, h⟩ fuel

/-- One operation that may come up is taken: whichever comes up, each is walked. -/
theorem TD.all {S : List Blk → Prop} {ops : Array Oper} {Q : Post} {fuel : Nat} {listed : Array Bool} {rs : List Nat} (hr : Region.ready .any ops listed = rs) (hne : rs ≠ [])
    (h : ∀ i ∈ rs, ∃ o, ops[i]? = some o ∧ Tg C ops o (fun e' L' => S L' ∧ TD C S ops Q fuel (listed.setIfInBounds i true) e' L') e L) : TD C S ops Q (fuel + 1) listed e L := by
  intro a w hrel hs hS
  refine wpAnyH_all hr hne fun i hi => ?_
  obtain ⟨o, ho, hg1, hg0⟩ := h i hi
  unfold wpOp
  simp only [ho]
  rw [wanted_eq hrel]
  cases hw : wantedE C.n ops e o.guard with
  | true =>
    simp only [if_true]
    refine .inl (hg1 hw a w _ _ hrel hs ?_)
    intro a' w' e' L' hr' hs' ⟨hS', hT'⟩
    exact ⟨⟨L', hs', hS'⟩, hT' a' w' hr' hs' hS'⟩
  | false =>
    simp only [Bool.false_eq_true, if_false]
    obtain ⟨hS', hT'⟩ := hg0 hw
    exact ⟨⟨L, hs, hS'⟩, hT' _ _ (hrel.put _ _) hs hS'⟩

/-- The only one that may come up. -/
theorem TD.one {S : List Blk → Prop} {ops : Array Oper} {Q : Post} {fuel : Nat} {listed : Array Bool} {i : Nat} {o : Oper} (hr : Region.ready .any ops listed = [i]) (ho : ops[i]? = some o) (hg : wantedE C.n ops e o.guard = true)
    (h : T1 C o (fun e' L' => S L' ∧ TD C S ops Q fuel (listed.setIfInBounds i true) e' L') e L) : TD C S ops Q (fuel + 1) listed e L :=
  TD.all hr (by simp) fun j hj => by
    have : j = i := by simpa using hj
    subst this
    exact ⟨o, ho, fun _ => h, fun h0 => by rw [hg] at h0; cases h0⟩

/-- An operation that yields its value in whatever world meets S is taken first. -/
theorem TD.take {S : List Blk → Prop} {ops : Array Oper} {Q : Post} {fuel : Nat} {listed : Array Bool} {i : Nat} {o : Oper} (v : Value) (hi : ops[i]? = some o) (hsel : Region.noSelect ops = true) (hf : Region.free .any ops listed i = true) (hr : (Region.ready .any ops listed).contains i = true)
    (hg : wantedE C.n ops e o.guard = true) (hQ : ∀ c e L, ¬ Q (.panic c) e L) (hy : ∀ L, S L → V1 C o e L v)
    (h : TD C S ops Q fuel (listed.setIfInBounds i true) (putO e o.dst v) L) : TD C S ops Q (fuel + 1) listed e L := by
  intro a w hrel hs hS
  refine wpAnyH_take (v := v) hi hsel hf hr ?_ ?_ ⟨L, hs, hS⟩ (h _ _ (hrel.put _ _) hs hS)
  · rintro c a w ⟨e', L', _, _, hq⟩
    exact absurd hq (hQ c e' L')
  · refine .inl ⟨by rw [wanted_eq hrel]; exact hg, ?_⟩
    rintro w' ⟨L', hs', hS'⟩
    rw [hrel.eval]
    exact hy L' hS' w' hs'

/-- One that its guard passes by. -/
theorem TD.takeNo {S : List Blk → Prop} {ops : Array Oper} {Q : Post} {fuel : Nat} {listed : Array Bool} {i : Nat} {o : Oper} (hi : ops[i]? = some o) (hsel : Region.noSelect ops = true) (hf : Region.free .any ops listed i = true) (hr : (Region.ready .any ops listed).contains i = true)
    (hg : wantedE C.n ops e o.guard = false) (hQ : ∀ c e L, ¬ Q (.panic c) e L) (h : TD C S ops Q fuel (listed.setIfInBounds i true) (putO e o.dst undef) L) : TD C S ops Q (fuel + 1) listed e L := by
  intro a w hrel hs hS
  refine wpAnyH_take (v := undef) hi hsel hf hr ?_ (.inr ⟨by rw [wanted_eq hrel]; exact hg, rfl⟩) ⟨L, hs, hS⟩ (h _ _ (hrel.put _ _) hs hS)
  rintro c a w ⟨e', L', _, _, hq⟩
  exact absurd hq (hQ c e' L')

/-- Regions that only read: in the text's order. -/
theorem T.drawR {id : Nat} {l : List Oper} {Q : Post} (hm : C.P.follows .mixedOrders = true) (h : TD C (fun L' => L' = L) l.toArray Q l.toArray.size (Array.replicate l.toArray.size false) e L) : T C (.region id l.toArray true) Q e L :=
  T.draw (fun L' => L' = L) hm rfl h
theorem TD.takeR {L0 : List Blk} {ops : Array Oper} {Q : Post} {fuel : Nat} {listed : Array Bool} (i : Nat) {o : Oper} {v : Value} (hi : ops[i]? = some o) (hsel : Region.noSelect ops = true) (hf : Region.free .any ops listed i = true) (hr : (Region.ready .any ops listed).contains i = true)
    (hg : wantedE C.n ops e o.guard = true) (hQ : ∀ c e L, ¬ Q (.panic c) e L) (hy : V1 C o e L0 v) (h : TD C (fun L' => L' = L0) ops Q fuel (listed.setIfInBounds i true) (putO e o.dst v) L0) : TD C (fun L' => L' = L0) ops Q (fuel + 1) listed e L0 :=
  TD.take v hi hsel hf hr hg hQ (fun _ hL => hL ▸ hy) h

/-- Regions that write: nothing is kept in mind; what only reckons is taken first, the rest is walked in each order. -/
def TU (C : Ctx) (ops : Array Oper) (Q : Post) (fuel : Nat) (listed : Array Bool) (e : Env) (L : List Blk) : Prop := TD C (fun _ => True) ops Q fuel listed e L
theorem T.drawU {id : Nat} {l : List Oper} {Q : Post} (hm : C.P.follows .mixedOrders = true) (h : TU C l.toArray Q l.toArray.size (Array.replicate l.toArray.size false) e L) : T C (.region id l.toArray true) Q e L :=
  T.draw (fun _ => True) hm trivial h
theorem TU.done {ops : Array Oper} {Q : Post} {fuel : Nat} {listed : Array Bool} (hr : Region.ready .any ops listed = []) (h : Q .normal e L) : TU C ops Q fuel listed e L := TD.done hr h
theorem TU.take {ops : Array Oper} {Q : Post} {fuel : Nat} {listed : Array Bool} (i : Nat) {o : Oper} {v : Value} (hi : ops[i]? = some o) (hsel : Region.noSelect ops = true) (hf : Region.free .any ops listed i = true) (hr : (Region.ready .any ops listed).contains i = true)
    (hg : wantedE C.n ops e o.guard = true) (hQ : ∀ c e L, ¬ Q (.panic c) e L) (hy : ∀ L, V1 C o e L v) (h : TU C ops Q fuel (listed.setIfInBounds i true) (putO e o.dst v) L) : TU C ops Q (fuel + 1) listed e L :=
  TD.take v hi hsel hf hr hg hQ (fun L _ => hy L) h
theorem TU.takeNo {ops : Array Oper} {Q : Post} {fuel : Nat} {listed : Array Bool} (i : Nat) {o : Oper} (hi : ops[i]? = some o) (hsel : Region.noSelect ops = true) (hf : Region.free .any ops listed i = true) (hr : (Region.ready .any ops listed).contains i = true)
    (hg : wantedE C.n ops e o.guard = false) (hQ : ∀ c e L, ¬ Q (.panic c) e L) (h : TU C ops Q fuel (listed.setIfInBounds i true) (putO e o.dst undef) L) : TU C ops Q (fuel + 1) listed e L :=
  TD.takeNo hi hsel hf hr hg hQ h
theorem TU.one {ops : Array Oper} {Q : Post} {fuel : Nat} {listed : Array Bool} (i : Nat) {o : Oper} (hr : Region.ready .any ops listed = [i]) (ho : ops[i]? = some o) (hg : wantedE C.n ops e o.guard = true)
    (h : T1 C o (TU C ops Q fuel (listed.setIfInBounds i true)) e L) : TU C ops Q (fuel + 1) listed e L :=
  TD.one hr ho hg (fun a w K' Q' hr hs hK => h a w K' Q' hr hs fun a' w' e' L' h1 h2 h3 => hK a' w' e' L' h1 h2 ⟨trivial, h3⟩)
theorem TU.two {ops : Array Oper} {Q : Post} {fuel : Nat} {listed : Array Bool} (i j : Nat) {oi oj : Oper} (hr : Region.ready .any ops listed = [i, j]) (hoi : ops[i]? = some oi) (hoj : ops[j]? = some oj) (hgi : wantedE C.n ops e oi.guard = true) (hgj : wantedE C.n ops e oj.guard = true)
    (hi : T1 C oi (TU C ops Q fuel (listed.setIfInBounds i true)) e L) (hj : T1 C oj (TU C ops Q fuel (listed.setIfInBounds j true)) e L) : TU C ops Q (fuel + 1) listed e L :=
  TD.all hr (by simp) fun k hk => by
    simp only [List.mem_cons, List.not_mem_nil, or_false] at hk
    rcases hk with rfl | rfl
    · exact ⟨oi, hoi, fun _ a w K' Q' hr hs hK => hi a w K' Q' hr hs fun a' w' e' L' h1 h2 h3 => hK a' w' e' L' h1 h2 ⟨trivial, h3⟩, fun h0 => by rw [hgi] at h0; cases h0⟩
    · exact ⟨oj, hoj, fun _ a w K' Q' hr hs hK => hj a w K' Q' hr hs fun a' w' e' L' h1 h2 h3 => hK a' w' e' L' h1 h2 ⟨trivial, h3⟩, fun h0 => by rw [hgj] at h0; cases h0⟩
theorem TU.three {ops : Array Oper} {Q : Post} {fuel : Nat} {listed : Array Bool} (i j k : Nat) {oi oj ok : Oper} (hr : Region.ready .any ops listed = [i, j, k]) (hoi : ops[i]? = some oi) (hoj : ops[j]? = some oj) (hok : ops[k]? = some ok) (hgi : wantedE C.n ops e oi.guard = true) (hgj : wantedE C.n ops e oj.guard = true) (hgk : wantedE C.n ops e ok.guard = true)
    (hi : T1 C oi (TU C ops Q fuel (listed.setIfInBounds i true)) e L) (hj : T1 C oj (TU C ops Q fuel (listed.setIfInBounds j true)) e L) (hk : T1 C ok (TU C ops Q fuel (listed.setIfInBounds k true)) e L) : TU C ops Q (fuel + 1) listed e L :=
  TD.all hr (by simp) fun m hm => by
    simp only [List.mem_cons, List.not_mem_nil, or_false] at hm
    rcases hm with rfl | rfl | rfl
    · exact ⟨oi, hoi, fun _ a w K' Q' hr hs hK => hi a w K' Q' hr hs fun a' w' e' L' h1 h2 h3 => hK a' w' e' L' h1 h2 ⟨trivial, h3⟩, fun h0 => by rw [hgi] at h0; cases h0⟩
    · exact ⟨oj, hoj, fun _ a w K' Q' hr hs hK => hj a w K' Q' hr hs fun a' w' e' L' h1 h2 h3 => hK a' w' e' L' h1 h2 ⟨trivial, h3⟩, fun h0 => by rw [hgj] at h0; cases h0⟩
    · exact ⟨ok, hok, fun _ a w K' Q' hr hs hK => hk a w K' Q' hr hs fun a' w' e' L' h1 h2 h3 => hK a' w' e' L' h1 h2 ⟨trivial, h3⟩, fun h0 => by rw [hgk] at h0; cases h0⟩

/-- A piece out of the midst of a block. -/
theorem RdN.mid {b o k size : Nat} {cells : List Value} (hf : Find L ⟨b, 0, cells, size⟩) : RdN C L ⟨b, o, none⟩ ((cells.drop o).take k) :=
  RdN.own hf fun i v hv => by
    rw [List.getElem?_take] at hv
    split at hv
    · rw [List.getElem?_drop] at hv
      show (bif Nat.ble 0 (o + i) then cells[o + i - 0]? else none) = some v
      rw [Nat.ble_eq_true_of_le (Nat.zero_le _)]; exact hv
    · cases hv

/-! ### Slices written out -/

/-- Operands and their values, one by one. -/
inductive Evs (n : Nat) (e : Env) : List Operand → List Value → Prop
  | nil : Evs n e [] []
  | cons {o : Operand} {v : Value} {os : List Operand} {vs : List Value} : ev n e o = v → Evs n e os vs → Evs n e (o :: os) (v :: vs)

theorem Evs.eq {n : Nat} {e : Env} {os : List Operand} {vs : List Value} (h : Evs n e os vs) : os.map (ev n e) = vs := by
  induction h with
  | nil => rfl
  | cons h _ ih => rw [List.map_cons, h, ih]

theorem ones {vs : List Value} (h : vs.all one = true) : ∀ u ∈ vs, one u = true := by simpa using h

theorem flatten_ones {vs : List Value} (h : ∀ u ∈ vs, one u = true) : (vs.map (fun v => v.cells.toList)).flatten = vs := by
  induction vs with
  | nil => rfl
  | cons v vs ih =>
    rw [List.map_cons, List.flatten_cons, ih (fun u hu => h u (by simp [hu])), cells_one (h v (by simp))]; rfl

theorem parts_eq {n : Nat} {e : Env} {os : List Operand} {vs : List Value} (h : Evs n e os vs) : (((os.zipIdx 0).map (fun p => (p.2, p.1))).map (fun p => (p.1, ev n e p.2))) = (vs.zipIdx 0).map (fun p => (p.2, p.1)) := by
  rw [← h.eq, List.map_map]
  have : ∀ (os : List Operand) (k : Nat), ((os.zipIdx k).map ((fun p : Nat × Operand => (p.1, ev n e p.2)) ∘ fun p : Operand × Nat => (p.2, p.1))) = ((os.map (ev n e)).zipIdx k).map (fun p => (p.2, p.1)) := by
    intro os
    induction os with
    | nil => intro k; rfl
    | cons o os ih => intro k; simp only [List.zipIdx_cons, List.map_cons, ih]; rfl
  exact this os 0

/-- A slice of elements of one cell, all given. -/
theorem T1.buildSl1 {t el : TypeId} {len : Nat} {ps : List (Nat × Operand)} {os : List Operand} {vs : List Value} {z : Value} (hT : C.P.underlying t = some (.slice el)) (hk : SizeIs C.P el 1) (hz : ZeroIs C.P el z)
    (hlen : len ≤ 16777216) (hps : ps = (os.zipIdx 0).map (fun p => (p.2, p.1))) (hev : Evs C.n e os vs) (hl : vs.length = len) (hone : ∀ u ∈ vs, one u = true)
    (k : ∀ b, K (putO e dst (.slice (some ⟨b, 0, none⟩) len len)) (⟨b, 0, vs, len⟩ :: L)) : T1 C ⟨dst, .buildSlice t len ps.toArray, ty, pos, after, guard⟩ K e L := by
  subst hps
  refine T1.buildSlice hT hk hz (by omega) (parts_eq hev) hl (fun v hv => by rw [cells_one (hone v hv)]; rfl) (fun b => ?_)
  rw [flatten_ones hone, Nat.mul_one]
  exact k b

theorem sizes {k : Nat} {vss : List (List Value)} (h : vss.all (fun l => l.length == k) = true) : ∀ l ∈ vss, l.length = k := by simpa using h

/-- A slice of elements of more cells each, all given. -/
inductive Aggs : List Value → List (List Value) → Prop
  | nil : Aggs [] []
  | cons {v : Value} {l : List Value} {vs : List Value} {vss : List (List Value)} : v = .agg l.toArray → Aggs vs vss → Aggs (v :: vs) (l :: vss)
theorem Aggs.eq {vs : List Value} {vss : List (List Value)} (h : Aggs vs vss) : vs = vss.map fun l => .agg l.toArray := by
  induction h with
  | nil => rfl
  | cons h _ ih => rw [List.map_cons, ← ih, h]
theorem T1.buildSlN {t el : TypeId} {len size : Nat} {ps : List (Nat × Operand)} {os : List Operand} {vs : List Value} {vss : List (List Value)} {z : Value} (hT : C.P.underlying t = some (.slice el)) (hk : SizeIs C.P el size) (hz : ZeroIs C.P el z)
    (hlen : len * size ≤ 16777216) (hps : ps = (os.zipIdx 0).map (fun p => (p.2, p.1))) (hev : Evs C.n e os vs) (hag : Aggs vs vss) (hl : vss.length = len) (hsz : ∀ l ∈ vss, l.length = size)
    (k : ∀ b, K (putO e dst (.slice (some ⟨b, 0, none⟩) len len)) (⟨b, 0, vss.flatten, len * size⟩ :: L)) : T1 C ⟨dst, .buildSlice t len ps.toArray, ty, pos, after, guard⟩ K e L := by
  have hag' := hag.eq; subst hag'
  subst hps
  refine T1.buildSlice hT hk hz hlen (parts_eq hev) (by simpa using hl) (fun v hv => by obtain ⟨l, hl', rfl⟩ := List.mem_map.1 hv; simpa [Value.cells] using hsz l hl') (fun b => ?_)
  have : ((vss.map fun l => Value.agg l.toArray).map (fun v => v.cells.toList)).flatten = vss.flatten := by
    rw [List.map_map]; congr 1
    conv => rhs; rw [← List.map_id vss]
    exact List.map_congr_left fun l _ => by simp [Value.cells]
  rw [this]
  exact k b

/-! ### Structs written out -/

/-- A list with some of its elements, one behind the other, turned. -/
inductive SetN : List Value → Nat → List Value → List Value → Prop
  | done {l : List Value} : SetN l 0 [] l
  | here {x v : Value} {l l' vs : List Value} : SetN l 0 vs l' → SetN (x :: l) 0 (v :: vs) (v :: l')
  | there {x : Value} {l l' vs : List Value} {n : Nat} : SetN l n vs l' → SetN (x :: l) (n + 1) vs (x :: l')

theorem SetN.eq {l l' vs : List Value} {n : Nat} (h : SetN l n vs l') : n + vs.length ≤ l.length ∧ putN l n vs = l' := by
  induction h with
  | done => exact ⟨by simp, by simp [putN]⟩
  | here _ ih => exact ⟨by have := ih.1; simp at this ⊢; omega, by have := ih.2; simp only [putN, Nat.zero_add, List.length_cons] at this ⊢; rw [← this]; simp⟩
  | there _ ih => exact ⟨by have := ih.1; simp at this ⊢; omega, by have := ih.2; simp only [putN] at this ⊢; rw [← this]; simp [Nat.add_right_comm]⟩

inductive FillL : List Value → List (Nat × List Value) → List Value → Prop
  | nil {l : List Value} : FillL l [] l
  | cons {l l1 out vs : List Value} {off : Nat} {qs : List (Nat × List Value)} : SetN l off vs l1 → FillL l1 qs out → FillL l ((off, vs) :: qs) out

/-- The parts of a literal: each one's place and cells. -/
inductive Parts (n : Nat) (e : Env) (place : Nat → Option (Nat × Nat)) : List (Nat × Operand) → List (Nat × List Value) → Prop
  | nil : Parts n e place [] []
  | one {i off : Nat} {o : Operand} {v : Value} {ps : List (Nat × Operand)} {qs : List (Nat × List Value)} : place i = some (off, 1) → ev n e o = v → one v = true → Parts n e place ps qs → Parts n e place ((i, o) :: ps) ((off, [v]) :: qs)
  | many {i off k : Nat} {o : Operand} {l : List Value} {ps : List (Nat × Operand)} {qs : List (Nat × List Value)} : place i = some (off, k) → ev n e o = .agg l.toArray → l.length = k → Parts n e place ps qs → Parts n e place ((i, o) :: ps) ((off, l) :: qs)

theorem fold_putN {v : Value} {off : Nat} {l : List Value} (h : off + v.cells.size ≤ l.length) : (v.cells.zipIdx.foldl (fun cs (c, j) => cs.setIfInBounds (off + j) c) l.toArray).toList = putN l off v.cells.toList := by
  rw [zip_foldl_toList]
  obtain ⟨h1, h2⟩ := foldl_set v.cells.toList off 0 l.toArray (by simpa using h)
  apply List.ext_getElem?
  intro i
  rw [Array.getElem?_toList, h2, putN_get (by simpa using h)]
  simp

theorem fill_parts {n : Nat} {e : Env} {place : Nat → Option (Nat × Nat)} {ps : List (Nat × Operand)} {qs : List (Nat × List Value)} (h : Parts n e place ps qs) : ∀ {l out : List Value}, FillL l qs out →
    Instr.fill place l.toArray (ps.map (fun p => (p.1, ev n e p.2))) = some out.toArray := by
  have step : ∀ {i off k : Nat} {v : Value} {l l1 vs : List Value} {rest : List (Nat × Value)}, place i = some (off, k) → v.cells.size = k → v.cells.toList = vs → SetN l off vs l1 → Instr.fill place l.toArray ((i, v) :: rest) = Instr.fill place l1.toArray rest := by
    intro i off k v l l1 vs rest hp hk hvs hset
    subst hk; subst hvs
    obtain ⟨s1, s2⟩ := hset.eq
    simp only [Array.length_toList] at s1
    have := fold_putN (v := v) (off := off) (l := l) s1
    rw [s2] at this
    have hcells : (v.cells.zipIdx.foldl (fun cs (c, j) => cs.setIfInBounds (off + j) c) l.toArray) = l1.toArray := by rw [← this, Array.toArray_toList]
    simp only [Instr.fill, hp]
    rw [if_neg (by simp; omega)]
    rw [← hcells]
  induction h with
  | nil => intro l out hf; cases hf; rfl
  | @one i off o v ps qs h1 h2 h3 _ ih =>
    intro l out hf
    cases hf with
    | cons hs hr =>
      rw [List.map_cons, step h1 (by show (ev n e o).cells.size = 1; rw [h2, cells_one h3]; rfl) (by show (ev n e o).cells.toList = [v]; rw [h2, cells_one h3]) hs]
      exact ih hr
  | @many i off k o l' ps qs h1 h2 h3 _ ih =>
    intro l out hf
    cases hf with
    | cons hs hr =>
      rw [List.map_cons, step h1 (by show (ev n e o).cells.size = k; rw [h2]; simpa [Value.cells] using h3) (by show (ev n e o).cells.toList = l'; rw [h2]; rfl) hs]
      exact ih hr

/-- A struct's literal. -/
theorem V1.buildF {t : TypeId} {ps : List (Nat × Operand)} {qs : List (Nat × List Value)} {places : Array (Nat × Nat)} {zl out : List Value} (hP : PlacesAre C.P t places) (hz : ZeroIs C.P t (.agg zl.toArray)) (hp : Parts C.n e (fun i => places[i]?) ps qs) (hf : FillL zl qs out) :
    V1 C ⟨dst, .build t ps.toArray, ty, pos, after, guard⟩ e L (.agg out.toArray) := V1.build hP hz (fill_parts hp hf)

/-- An array's literal. -/
theorem V1.buildFA {t el : TypeId} {n size : Nat} {ps : List (Nat × Operand)} {qs : List (Nat × List Value)} {zl out : List Value} (hT : C.P.underlying t = some (.array n el)) (hk : SizeIs C.P el size) (hz : ZeroIs C.P t (.agg zl.toArray)) (hp : Parts C.n e (fun i => some (i * size, size)) ps qs) (hf : FillL zl qs out) :
    V1 C ⟨dst, .build t ps.toArray, ty, pos, after, guard⟩ e L (.agg out.toArray) := V1.buildA hT hk hz (fill_parts hp hf)

end rules

/-! ### Numbers in their bounds -/

theorem wrap_i64 (x : Int) (h1 : -9223372036854775808 ≤ x) (h2 : x < 9223372036854775808) : IntKind.i64.wrap x = x := by unfold IntKind.wrap IntKind.bits IntKind.signed; simp; omega
theorem wrap_i32 (x : Int) (h1 : -2147483648 ≤ x) (h2 : x < 2147483648) : IntKind.i32.wrap x = x := by unfold IntKind.wrap IntKind.bits IntKind.signed; simp; omega
theorem wrap_u8 (x : Int) (h1 : 0 ≤ x) (h2 : x < 256) : IntKind.u8.wrap x = x := by unfold IntKind.wrap IntKind.bits IntKind.signed; simp; omega
theorem wrap_u32 (x : Int) (h1 : 0 ≤ x) (h2 : x < 4294967296) : IntKind.u32.wrap x = x := by unfold IntKind.wrap IntKind.bits IntKind.signed; simp; omega
theorem wrap_u64 (x : Int) (h1 : 0 ≤ x) (h2 : x < 18446744073709551616) : IntKind.u64.wrap x = x := by unfold IntKind.wrap IntKind.bits IntKind.signed; simp; omega
theorem wrap_u8_mod (x : Int) : IntKind.u8.wrap x = x % 256 := by unfold IntKind.wrap IntKind.bits IntKind.signed; simp
theorem wrap_u32_mod (x : Int) : IntKind.u32.wrap x = x % 4294967296 := by unfold IntKind.wrap IntKind.bits IntKind.signed; simp
theorem wrap_u64_mod (x : Int) : IntKind.u64.wrap x = x % 18446744073709551616 := by unfold IntKind.wrap IntKind.bits IntKind.signed; simp

/-! ### Loops: the frame at a round's head -/

/-- The slots of S as f has them, the others as e. -/
def over (S : List Nat) (f e : Env) : Env := fun t => bif S.contains t then f t else e t

def putAll : List (Nat × Value) → Env → Env
  | [], e => e
  | (t, v) :: l, e => put (putAll l e) t v

/-- These slots hold these values. -/
inductive Trk (e : Env) : List (Nat × Value) → Prop
  | nil : Trk e []
  | cons {t : Nat} {v : Value} {l : List (Nat × Value)} : e t = v → Trk e l → Trk e ((t, v) :: l)

/-- But for the slots of S two frames are the same. -/
def Off (S : List Nat) (e' e : Env) : Prop := ∀ t, S.contains t = false → e' t = e t

theorem Off.refl {S : List Nat} {e : Env} : Off S e e := fun _ _ => rfl
theorem Off.ov {S : List Nat} {f e : Env} : Off S (over S f e) e := fun t h => by show (bif S.contains t then f t else e t) = e t; rw [h]; rfl
theorem Off.put {S : List Nat} {e' e : Env} {d : Nat} {v : Value} (hd : S.contains d = true) (h : Off S e' e) : Off S (putO e' (some d) v) e := fun t ht => by
  show (bif Nat.beq t d then v else e' t) = e t
  cases hb : Nat.beq t d with
  | true => rw [Nat.eq_of_beq_eq_true hb, hd] at ht; cases ht
  | false => exact h t ht
theorem Off.none {S : List Nat} {e' e : Env} {v : Value} (h : Off S e' e) : Off S (putO e' none v) e := h
theorem Off.all {S : List Nat} {e' e : Env} {l : List (Nat × Value)} (hd : l.all (fun p => S.contains p.1) = true) (h : Off S e' e) : Off S (putAll l e') e := by
  induction l with
  | nil => exact h
  | cons p l ih =>
    simp only [List.all_cons, Bool.and_eq_true] at hd
    exact Off.put hd.1 (ih hd.2)

theorem Trk.put {e : Env} {l : List (Nat × Value)} (h : Trk e l) : putAll l e = e := by
  induction h with
  | nil => rfl
  | @cons t v l ht _ ih =>
    simp only [putAll, ih]
    funext u
    show (bif Nat.beq u t then v else e u) = e u
    cases hb : Nat.beq u t with
    | true => rw [Nat.eq_of_beq_eq_true hb, ht]; rfl
    | false => rfl

theorem Off.eq {S : List Nat} {e' e : Env} (h : Off S e' e) : over S e' e = e' := by
  funext t
  show (bif S.contains t then e' t else e t) = e' t
  cases hc : S.contains t with
  | true => rfl
  | false => exact (h t hc).symm

/-- What a round must come to: its number has gone down, the slots that are watched hold what they should, the others but for S are untouched. -/
def rndF {σ : Type} (S : List Nat) (e0 : Env) (tr : σ → List (Nat × Value)) (I : σ → List Blk → Prop) (μ : σ → Nat) (s : σ) (Q : Post) : Post
  | .normal, e, L => ∃ s' L2 G, μ s' < μ s ∧ Trk e (tr s') ∧ Take L L2 G ∧ I s' L2 ∧ Off S e e0
  | x, e, L => Q x e L

theorem T.loopF {C : Ctx} {Q : Post} {e : Env} {L : List Blk} {c : Code} {σ : Type} (S : List Nat) (tr : σ → List (Nat × Value)) (I : σ → List Blk → Prop) (μ : σ → Nat) (s0 : σ) (h0 : Trk e (tr s0)) {L0 G0 : List Blk} (ht0 : Take L L0 G0) (hI : I s0 L0)
    (round : ∀ s f L, I s L → T C c (rndF S e tr I μ s Q) (putAll (tr s) (over S f e)) L) : T C (.loop c) Q e L := by
  refine T.loop (fun s e' L => (∃ L2 G, Take L L2 G ∧ I s L2) ∧ ∃ f, e' = putAll (tr s) (over S f e)) μ s0 ⟨⟨L0, G0, ht0, hI⟩, e, by rw [Off.refl.eq, h0.put]⟩ ?_
  rintro s e' L ⟨⟨L2, G2, htk, hI⟩, f, rfl⟩
  refine T.perm (T.sub ((round s f L2 hI).mono ?_) (List.sublist_append_left L2 G2)) htk.perm.symm
  intro x e' L' hq
  cases x with
  | normal =>
    obtain ⟨s', L3, G3, h1, h2, h3, h4, h5⟩ := hq
    exact ⟨s', h1, ⟨L3, G3, h3, h4⟩, e', by rw [h5.eq, h2.put]⟩
  | _ => exact hq


/-! ### Frames written anew: of the slots only those that are still wanted -/

/-- The frame may be taken as one that holds these values, whatever else it holds. -/
theorem T.live {C : Ctx} {Q : Post} {e : Env} {L : List Blk} {c : Code} {l : List (Nat × Value)} (h : Trk e l) (k : ∀ e', T C c Q (putAll l e') L) : T C c Q e L := by
  have := k e
  rwa [h.put] at this

/-- What a round must come to, or a part of a body: these slots hold these values; the blocks are as they should. -/
def rndL {σ : Type} (l0 : List (Nat × Value)) (tr : σ → List (Nat × Value)) (I : σ → List Blk → Prop) (ok : σ → Prop) (Q : Post) : Post
  | .normal, e, L => ∃ s' L2 G, ok s' ∧ Trk e (tr s') ∧ Trk e l0 ∧ Take L L2 G ∧ I s' L2
  | x, e, L => Q x e L

theorem T.loopL {C : Ctx} {Q : Post} {e : Env} {L : List Blk} {c : Code} {σ : Type} {l0 : List (Nat × Value)} (tr : σ → List (Nat × Value)) (I : σ → List Blk → Prop) (μ : σ → Nat) (s0 : σ) (h0 : Trk e (tr s0)) (h1 : Trk e l0) {L0 G0 : List Blk} (ht0 : Take L L0 G0) (hI : I s0 L0)
    (round : ∀ s e' L, I s L → T C c (rndL l0 tr I (fun s' => μ s' < μ s) Q) (putAll (tr s) (putAll l0 e')) L) : T C (.loop c) Q e L := by
  refine T.loop (fun s e' L => (∃ L2 G, Take L L2 G ∧ I s L2) ∧ Trk e' (tr s) ∧ Trk e' l0) μ s0 ⟨⟨L0, G0, ht0, hI⟩, h0, h1⟩ ?_
  rintro s e' L ⟨⟨L2, G2, htk, hI⟩, ht, hl⟩
  refine T.perm (T.sub (L' := L2) ?_ (List.sublist_append_left L2 G2)) htk.perm.symm
  have := round s e' L2 hI
  rw [hl.put, ht.put] at this
  refine this.mono ?_
  intro x e L hq
  cases x with
  | normal =>
    obtain ⟨s', L3, G3, h1, h2, h3, h4, h5⟩ := hq
    exact ⟨s', h1, ⟨L3, G3, h4, h5⟩, h2, h3⟩
  | _ => exact hq

/-- A place where ways meet: what holds there. -/
theorem T.cut {C : Ctx} {Q : Post} {e : Env} {L : List Blk} {x y : Code} {σ : Type} {l0 : List (Nat × Value)} (tr : σ → List (Nat × Value)) (I : σ → List Blk → Prop) (_ : Trk e l0) (hx : T C x (rndL l0 tr I (fun _ => True) Q) e L)
    (hy : ∀ s e' L, I s L → T C y Q (putAll (tr s) (putAll l0 e')) L) : T C (.seq x y) Q e L := by
  refine T.seq (hx.mono ?_)
  intro ex e L hq
  cases ex with
  | normal =>
    obtain ⟨s', L3, G3, _, h2, h3, h4, h5⟩ := hq
    have := hy s' e L3 h5
    rw [h3.put, h2.put] at this
    exact T.perm (T.sub this (List.sublist_append_left L3 G3)) h4.perm.symm
  | _ => exact hq

end Go.Proofs.YtlpkcbkflfbclaaDoor.S
