/- More laws of operations: what is put together, calls, append, copy, strings and bytes, entering and leaving. Holds for every program. -/
import Derived.Test.YtlpkcbkflfbclaaDoorOps
import Derived.Laws.BytesString
import Derived.Lib.ConvBytes
namespace Go.Proofs.YtlpkcbkflfbclaaDoor.S
open Go.RowKit

section rules
variable {C : Ctx} {K : Env → List Blk → Prop} {e : Env} {L : List Blk}
variable {dst : Option Tmp} {ty : TypeId} {pos : String} {after : Array Edge} {guard : Option (Nat × Bool)}

/-! ### Structs, arrays and slices put together -/

theorem V1.build {t : TypeId} {ps : List (Nat × Operand)} {places : Array (Nat × Nat)} {z : Value} {cells : Array Value} (hP : PlacesAre C.P t places) (hz : ZeroIs C.P t z)
    (hf : Instr.fill (fun i => places[i]?) z.cells (ps.map (fun p => (p.1, ev C.n e p.2))) = some cells) : V1 C ⟨dst, .build t ps.toArray, ty, pos, after, guard⟩ e L (.agg cells) := 
  V1.run (s := Instr.build t (ps.toArray.map fun (i, x) => (i, ev C.n e x))) rfl (fun w _ => by
    obtain ⟨fields, hT, hpl⟩ := hP
    unfold Instr.build
    rw [run_bind (run_zeroValue hz w), run_bind (run_underlying hT w)]
    simp only
    rw [run_bind (run_places hpl w)]
    have : ((ps.toArray.map fun (i, x) => (i, ev C.n e x)).toList) = ps.map (fun p => (p.1, ev C.n e p.2)) := by simp
    simp only [this, hf]; rfl)

theorem V1.buildA {t el : TypeId} {n size : Nat} {ps : List (Nat × Operand)} {z : Value} {cells : Array Value} (hT : C.P.underlying t = some (.array n el)) (hk : SizeIs C.P el size) (hz : ZeroIs C.P t z)
    (hf : Instr.fill (fun i => some (i * size, size)) z.cells (ps.map (fun p => (p.1, ev C.n e p.2))) = some cells) : V1 C ⟨dst, .build t ps.toArray, ty, pos, after, guard⟩ e L (.agg cells) := 
  V1.run (s := Instr.build t (ps.toArray.map fun (i, x) => (i, ev C.n e x))) rfl (fun w _ => by
    unfold Instr.build
    rw [run_bind (run_zeroValue hz w), run_bind (run_underlying hT w)]
    simp only
    rw [run_bind (run_sizeOf hk w)]
    have : ((ps.toArray.map fun (i, x) => (i, ev C.n e x)).toList) = ps.map (fun p => (p.1, ev C.n e p.2)) := by simp
    simp only [this, hf]; rfl)

/-- Nothing given: all is zero. -/
theorem V1.build0 {t : TypeId} {places : Array (Nat × Nat)} {z : Value} (hP : PlacesAre C.P t places) (hz : ZeroIs C.P t z) : V1 C ⟨dst, .build t (List.toArray []), ty, pos, after, guard⟩ e L (.agg z.cells) := 
  V1.build (ps := []) hP hz rfl

theorem V1.buildA0 {t el : TypeId} {n size : Nat} {z : Value} (hT : C.P.underlying t = some (.array n el)) (hk : SizeIs C.P el size) (hz : ZeroIs C.P t z) : V1 C ⟨dst, .build t (List.toArray []), ty, pos, after, guard⟩ e L (.agg z.cells) := 
  V1.buildA (ps := []) hT hk hz rfl

theorem foldl_set (vs : List Value) : ∀ (off j : Nat) (cs : Array Value), off + j + vs.length ≤ cs.size →
    ((vs.zipIdx j).foldl (fun cs (c, j) => cs.setIfInBounds (off + j) c) cs).size = cs.size ∧
    ∀ i, ((vs.zipIdx j).foldl (fun cs (c, j) => cs.setIfInBounds (off + j) c) cs)[i]? = if off + j ≤ i ∧ i < off + j + vs.length then vs[i - (off + j)]? else cs[i]? := by
  induction vs with
  | nil => intro off j cs _; exact ⟨rfl, fun i => by rw [if_neg (by simp only [List.length_nil]; omega)]; rfl⟩
  | cons v vs ih =>
    intro off j cs h
    simp only [List.length_cons] at h
    obtain ⟨h1, h2⟩ := ih off (j + 1) (cs.setIfInBounds (off + j) v) (by rw [Array.size_setIfInBounds]; omega)
    simp only [List.zipIdx_cons, List.foldl_cons]
    refine ⟨by simpa using h1, fun i => ?_⟩
    rw [h2]
    simp only [List.length_cons]
    by_cases hi : i = off + j
    · subst hi
      rw [if_neg (by omega), if_pos (by omega), Array.getElem?_setIfInBounds_self_of_lt (by omega)]
      simp
    · by_cases hin : off + (j + 1) ≤ i ∧ i < off + (j + 1) + vs.length
      · rw [if_pos hin, if_pos (by omega), show i - (off + j) = (i - (off + (j + 1))) + 1 by omega]; rfl
      · rw [if_neg hin, if_neg (by omega), Array.getElem?_setIfInBounds_ne (Ne.symm hi)]

theorem zip_foldl_toList (v : Value) (off : Nat) (cs : Array Value) : (v.cells.zipIdx.foldl (fun cs (c, j) => cs.setIfInBounds (off + j) c) cs) = ((v.cells.toList.zipIdx 0).foldl (fun cs (c, j) => cs.setIfInBounds (off + j) c) cs) := by
  rw [← Array.foldl_toList]; congr 1; simp

/-- All parts of a row, one behind the other. -/
theorem fill_all {size : Nat} : ∀ (vs : List Value) (k : Nat) (cs : Array Value), (∀ v ∈ vs, v.cells.size = size) → cs.size = (k + vs.length) * size →
    ∃ out, Instr.fill (fun i => some (i * size, size)) cs ((vs.zipIdx k).map fun p => (p.2, p.1)) = some out ∧ out.toList = cs.toList.take (k * size) ++ (vs.map (fun v => v.cells.toList)).flatten := by
  intro vs
  induction vs with
  | nil =>
    intro k cs _ hs
    refine ⟨cs, rfl, ?_⟩
    simp at hs
    simp [List.take_of_length_le, hs]
  | cons v vs ih =>
    intro k cs hv hs
    have hvs := hv v (by simp)
    simp only [List.length_cons] at hs
    have hle : k * size + v.cells.size ≤ cs.size := by
      rw [hs, hvs, show k + (vs.length + 1) = (k + 1) + vs.length by omega, Nat.add_mul, Nat.add_mul]; omega
    have hfold := foldl_set v.cells.toList (k * size) 0 cs (by simpa using hle)
    rw [← zip_foldl_toList] at hfold
    obtain ⟨f1, f2⟩ := hfold
    obtain ⟨out, ho, hl⟩ := ih (k + 1) _ (fun u hu => hv u (by simp [hu])) (by rw [f1, hs]; congr 1; omega)
    refine ⟨out, ?_, ?_⟩
    · simp only [List.zipIdx_cons, List.map_cons, Instr.fill]
      rw [if_neg (by simp [hvs]; omega)]
      exact ho
    · rw [hl]
      simp only [List.map_cons, List.flatten_cons]
      rw [← List.append_assoc]
      congr 1
      apply List.ext_getElem?
      intro i
      have hg : ∀ (a : Array Value) (i : Nat), a.toList[i]? = a[i]? := fun a i => by simp
      rw [List.getElem?_take, List.getElem?_append, hg, f2, List.length_take]
      have hkk : (k + 1) * size = k * size + size := by rw [Nat.add_mul]; omega
      simp only [Array.length_toList, Nat.add_zero, List.getElem?_take]
      by_cases h1 : i < k * size
      · rw [if_pos (by omega), if_neg (by omega), if_pos (by omega), if_pos h1]; simp
      · by_cases h2 : i < k * size + size
        · rw [if_pos (by omega), if_pos (by omega), if_neg (by omega)]; congr 1; omega
        · rw [if_neg (by omega), if_neg (by omega), List.getElem?_eq_none (by simp; omega)]

/-- A slice with all its elements given. -/
theorem T1.buildSliceG {tg : Option TypeId} {t el : TypeId} {len size : Nat} {ps : List (Nat × Operand)} {vs : List Value} {z : Value} (hT : C.P.underlying t = some (.slice el)) (hk : SizeIs C.P el size) (hz : ZeroIs C.P el z)
    (hlen : len * size ≤ 16777216) (hps : ps.map (fun p => (p.1, ev C.n e p.2)) = (vs.zipIdx 0).map (fun p => (p.2, p.1))) (hl : vs.length = len) (hvs : ∀ v ∈ vs, v.cells.size = size)
    (htg : tg = none ∨ tg = some el) (k : ∀ b, K (putO e dst (.slice (some ⟨b, 0, none⟩) len len)) (⟨⟨b, tg⟩, 0, (vs.map (fun v => v.cells.toList)).flatten, len * size⟩ :: L)) : T1 C ⟨dst, .buildSlice t len ps.toArray, ty, pos, after, guard⟩ K e L := by
  intro a w K' Q' hr hs hK
  unfold Oper.wp
  rw [hr.eval]
  have hsz0 : ((Array.range (len * size)).map (fun i => (if len * size = 0 then #[] else z.cells)[i % (if len * size = 0 then #[] else z.cells).size]!)).size = (0 + vs.length) * size := by
    rw [Array.size_map, Array.size_range, hl, Nat.zero_add]
  obtain ⟨out, ho, hout⟩ := fill_all vs 0 ((Array.range (len * size)).map (fun i => (if len * size = 0 then #[] else z.cells)[i % (if len * size = 0 then #[] else z.cells).size]!)) hvs hsz0
  simp only [Nat.zero_mul, List.take_zero, List.nil_append] at hout
  have hsz : out.size = len * size := by
    have := congrArg List.length hout
    simp only [Array.length_toList, List.length_flatten, List.map_map] at this
    rw [this]
    have : ∀ (vs : List Value), (∀ v ∈ vs, v.cells.size = size) → (vs.map (List.length ∘ fun v => v.cells.toList)).sum = vs.length * size := by
      intro vs
      induction vs with
      | nil => intro _; simp
      | cons v vs ih =>
        intro h
        have h1 := h v (by simp)
        have h2 := ih (fun u hu => h u (by simp [hu]))
        rw [List.map_cons, List.sum_cons, h2, List.length_cons, Nat.add_mul]
        simp only [Function.comp, Array.length_toList]
        omega
    rw [this vs hvs, hl]
  have hrun : (execOp (ev C.n e) ⟨dst, .buildSlice t len ps.toArray, ty, pos, after, guard⟩).run C.P w = .ok (.value (.slice (some ⟨w.heap.size, 0, none⟩) len len)) { w with heap := w.heap.push (.cells out el) } := by
    show (do pure (Next.value (← Instr.buildSlice t len (ps.toArray.map fun (i, x) => (i, ev C.n e x)))) : Sem Next).run C.P w = _
    refine run_value ?_
    unfold Instr.buildSlice
    rw [run_bind (run_underlying hT w)]
    simp only
    rw [run_bind (run_sizeOf hk w)]
    rw [if_neg (by omega)]
    have hz0 : (if len * size = 0 then pure #[] else do pure (← zeroValue el).cells : Sem (Array Value)).run C.P w = .ok (if len * size = 0 then #[] else z.cells) w := by
      split
      · rfl
      · rw [run_bind (run_zeroValue hz w)]; rfl
    have hp : ((ps.toArray.map fun (i, x) => (i, ev C.n e x)).toList) = (vs.zipIdx 0).map (fun p => (p.2, p.1)) := by rw [← hps]; simp
    split
    · rename_i h0
      simp only [h0, if_true] at ho
      simp only [pure_bind, hp, h0, ho]
      rfl
    · rename_i h0
      simp only [h0, if_false] at ho
      simp only [pure_bind]
      rw [run_bind (run_zeroValue hz w)]
      simp only [hp, ho]
      rfl
  rw [hrun]
  have hlen2 : (vs.map (fun v => v.cells.toList)).flatten.length = len * size := by rw [← hout, Array.length_toList, hsz]
  have hpush := hs.push (B := ⟨⟨w.heap.size, tg⟩, 0, (vs.map (fun v => v.cells.toList)).flatten, len * size⟩) (c := out) (E := el) (lo := 0) (hi := 0) (k := w.drawn) rfl (by show 0 + _ ≤ len * size; rw [hlen2]; omega) hsz (by
    intro i hi
    show out[0 + i]? = ((vs.map (fun v => v.cells.toList)).flatten)[i]?
    rw [← hout, Nat.zero_add, Array.getElem?_toList]) (by omega) (htg.imp (fun h => h) (fun h => ⟨h, rfl⟩))
  exact hK _ _ _ _ (hr.put _ _) hpush (k _)

theorem T1.buildSlice {t el : TypeId} {len size : Nat} {ps : List (Nat × Operand)} {vs : List Value} {z : Value} (hT : C.P.underlying t = some (.slice el)) (hk : SizeIs C.P el size) (hz : ZeroIs C.P el z)
    (hlen : len * size ≤ 16777216) (hps : ps.map (fun p => (p.1, ev C.n e p.2)) = (vs.zipIdx 0).map (fun p => (p.2, p.1))) (hl : vs.length = len) (hvs : ∀ v ∈ vs, v.cells.size = size)
    (k : ∀ b, K (putO e dst (.slice (some ⟨b, 0, none⟩) len len)) (⟨b, 0, (vs.map (fun v => v.cells.toList)).flatten, len * size⟩ :: L)) : T1 C ⟨dst, .buildSlice t len ps.toArray, ty, pos, after, guard⟩ K e L :=
  T1.buildSliceG hT hk hz hlen hps hl hvs (.inl rfl) k

/-! ### Calls -/

/-- Function f has a body and is no function of the runtime's. -/
def Has (P : Program) (f : FuncId) : Prop := ∃ fn, P.funcs[f]? = some fn ∧ (fn.name == "runtime.NumGoroutine") = false ∧ fn.body.isNone = false

theorem run_callFunc {P : Program} {f : FuncId} (h : Has P f) (args : Array Value) (w : World) : (callFunc f args).run P w = .ok (.enter f args) w := by
  obtain ⟨fn, h1, h2, h3⟩ := h
  simp only [callFunc, program, bind, Sem.bind, Sem.run, h1, h2, h3, Bool.false_eq_true, if_false]
  rfl

/-- A call: the callee's contract, at whatever world the caller has come to. -/
theorem T1.call {g : Operand} {args : List Operand} {ts : Array TypeId} {f : FuncId} {first cap : Array Value} {as : List Value} {R : Value → List Blk → Prop} (hg : ev C.n e g = .func (.func f) first cap) (hf : Has C.P f) (has : first ++ (args.map (ev C.n e)).toArray ++ cap = as.toArray)
    (hc : ∀ w, St C.w0 C.M L w → Calls C.P f as.toArray w fun en w' => ∃ v L', en = .returned v ∧ St C.w0 C.M L' w' ∧ R v L') (k : ∀ v L', R v L' → K (putO e dst v) L') : T1 C ⟨dst, .call ⟨.value g, args.toArray, ts⟩, ty, pos, after, guard⟩ K e L := by
  intro a w K' Q' hr hs hK
  unfold Oper.wp
  rw [hr.eval]
  have hrun : (execOp (ev C.n e) ⟨dst, .call ⟨.value g, args.toArray, ts⟩, ty, pos, after, guard⟩).run C.P w = .ok (.enter f as.toArray) w := by
    show (do let d ← Deferred.ofValue (ev C.n e g) (args.toArray.map (ev C.n e)); Go.invoke d.target d.args : Sem Next).run C.P w = _
    rw [hg, show args.toArray.map (ev C.n e) = (args.map (ev C.n e)).toArray from List.map_toArray ..]
    show (callFunc f ((first ++ (args.map (ev C.n e)).toArray) ++ cap)).run C.P w = _
    rw [has]; exact run_callFunc hf _ w
  rw [hrun]
  refine Calls.mono (hc w hs) ?_
  rintro en w' ⟨v, L', rfl, hs', hR⟩
  exact hK _ _ _ _ (hr.put _ _) hs' (k v L' hR)

/-- A call by name. -/
theorem T1.callF {args : List Operand} {ts : Array TypeId} {f : FuncId} {as : List Value} {R : Value → List Blk → Prop} (hf : Has C.P f) (has : args.map (ev C.n e) = as)
    (hc : ∀ w, St C.w0 C.M L w → Calls C.P f as.toArray w fun en w' => ∃ v L', en = .returned v ∧ St C.w0 C.M L' w' ∧ R v L') (k : ∀ v L', R v L' → K (putO e dst v) L') : T1 C ⟨dst, .call ⟨.value (.func f), args.toArray, ts⟩, ty, pos, after, guard⟩ K e L :=
  T1.call (first := #[]) (cap := #[]) rfl hf (by simp [has]) hc k

/-- What a contract says: the blocks that it gets (by their cells), what it hands back, which blocks are there then. -/
def Fn (P : Program) (f : FuncId) (as : List Value) (w : World) (X : List Blk) (R : Value → List Blk → Prop) : Prop :=
  (X.map Blk.id).Nodup → (∀ B ∈ X, B.In w) → Calls P f as.toArray w fun en w' => ∃ v Y, en = .returned v ∧ St w (X.map Blk.id) Y w' ∧ R v Y

/-- A call that leaves memory as it was. -/
theorem T1.call0 {args : List Operand} {ts : Array TypeId} {f : FuncId} {as : List Value} {R : Value → Prop} (hf : Has C.P f) (has : args.map (ev C.n e) = as)
    (hc : ∀ w, St C.w0 C.M L w → Fn C.P f as w [] fun v Y => Y = [] ∧ R v) (k : ∀ v, R v → K (putO e dst v) L) : T1 C ⟨dst, .call ⟨.value (.func f), args.toArray, ts⟩, ty, pos, after, guard⟩ K e L :=
  T1.callF (R := fun v L' => L' = L ∧ R v) hf has (fun w hs => (hc w hs (by simp) (by simp)).mono fun en w' ⟨v, Y, h1, h2, h3, h4⟩ => ⟨v, L, h1, by subst h3; simpa using hs.call_add h2, rfl, h4⟩) (fun v L' h => h.1 ▸ k v h.2)

/-- A call that hands back new memory. -/
theorem T1.callN {args : List Operand} {ts : Array TypeId} {f : FuncId} {as : List Value} {R : Value → List Blk → Prop} (hf : Has C.P f) (has : args.map (ev C.n e) = as)
    (hc : ∀ w, St C.w0 C.M L w → Fn C.P f as w [] R) (k : ∀ v Y, R v Y → K (putO e dst v) (Y ++ L)) : T1 C ⟨dst, .call ⟨.value (.func f), args.toArray, ts⟩, ty, pos, after, guard⟩ K e L :=
  T1.callF (R := fun v L' => ∃ Y, L' = Y ++ L ∧ R v Y) hf has (fun w hs => (hc w hs (by simp) (by simp)).mono fun en w' ⟨v, Y, h1, h2, h3⟩ => ⟨v, Y ++ L, h1, hs.call_add h2, Y, rfl, h3⟩) (fun v L' ⟨Y, h, hR⟩ => h ▸ k v Y hR)

/-- A call that may write some blocks (X). -/
theorem T1.callP {args : List Operand} {ts : Array TypeId} {f : FuncId} {as : List Value} {X G : List Blk} {R : Value → List Blk → Prop} (hf : Has C.P f) (has : args.map (ev C.n e) = as)
    (hc : ∀ w, St C.w0 C.M L w → Fn C.P f as w X R) (ht : Take L X G) (k : ∀ v Y, R v Y → K (putO e dst v) (Y ++ G)) : T1 C ⟨dst, .call ⟨.value (.func f), args.toArray, ts⟩, ty, pos, after, guard⟩ K e L :=
  T1.callF (R := fun v L' => ∃ Y, L' = Y ++ G ∧ R v Y) hf has (fun w hs => by
    have hs' := hs.perm ht.perm.symm
    have hsub : ∀ Y, Sub (X ++ G) X (Y ++ G) Y := fun Y => .here
    have hp := hs'.piece (hsub [])
    exact (hc w hs hp.1 hp.2).mono fun en w' ⟨v, Y, h1, h2, h3⟩ => ⟨v, Y ++ G, h1, hs'.call_sub (hsub Y) h2, Y, rfl, h3⟩) (fun v L' ⟨Y, h, hR⟩ => h ▸ k v Y hR)

/-! ### Entering and leaving -/

def env0 (as : List Value) : Env := fun t => as.getD t undef

theorem rel_start {n : Nat} {as : List Value} (h : as.length ≤ n) : Rel n (env0 as) { tmps := as.toArray ++ Array.replicate (n - as.toArray.size) undef, defers := [] } := by
  refine ⟨rfl, by simp; omega, fun t ht => ?_⟩
  simp only [env0, List.getD, Array.getD]
  rw [dif_pos (by simp; omega)]
  show ((as.toArray ++ Array.replicate (n - as.toArray.size) undef)[t]'_) = _
  rw [Array.getElem_append]
  split
  · rename_i h1; simp at h1; simp [h1]
  · rename_i h1
    simp only [List.size_toArray, Nat.not_lt] at h1
    simp [List.getElem?_eq_none h1]

/-- How a result is read at the end: a slot, or a variable's cells. -/
inductive Res (C : Ctx) (e : Env) (L : List Blk) : ResultVar → Value → Prop
  | tmp {t : Tmp} {v : Value} : ev C.n e (.tmp t) = v → Res C e L (.tmp t) v
  | cell1 {t : Tmp} {ty : TypeId} {a : Addr} {v : Value} : ev C.n e (.tmp t) = .pointer (some a) → OneT C.P ty true → Rd C L a v → Res C e L (.cell t ty) v
  | cellN {t : Tmp} {ty : TypeId} {b o k : Nat} {vs : List Value} : ev C.n e (.tmp t) = .pointer (some ⟨b, o, none⟩) → OneT C.P ty false → SizeIs C.P ty k → RdN C L ⟨b, o, none⟩ vs → vs.length = k → Res C e L (.cell t ty) (.agg vs.toArray)

theorem Rel.tmp {n : Nat} {e : Env} {a : Act} (h : Rel n e a) (t : Tmp) : a.tmps.getD t undef = ev n e (.tmp t) := by
  have := congrFun h.eval (.tmp t); exact this

/-- The results, one by one. -/
inductive Ress (C : Ctx) (e : Env) (L : List Blk) : List ResultVar → List Value → Prop
  | nil : Ress C e L [] []
  | cons {r : ResultVar} {v : Value} {rs : List ResultVar} {vs : List Value} : Res C e L r v → Ress C e L rs vs → Ress C e L (r :: rs) (v :: vs)

def res1 : List Value → Value
  | [v] => v
  | vs => .tuple vs.toArray

def resF (a : Act) : ResultVar → Sem Value
  | .tmp t => pure (a.tmps.getD t undef)
  | .cell ad t => do loadVar t (← asAddr (a.tmps.getD ad undef))

theorem run_res {fn : Func} {rs : List ResultVar} {vs : List Value} {a : Act} {w : World} (hfn : fn.results = rs.toArray) (hr : Rel C.n e a) (hs : St C.w0 C.M L w) (h : Ress C e L rs vs) :
    (results fn a.tmps).run C.P w = .ok (res1 vs) w := by
  have key : ∀ (rs : List ResultVar) (vs : List Value), Ress C e L rs vs → (rs.mapM (resF a)).run C.P w = .ok vs w := by
    intro rs vs h
    induction h with
    | nil => rfl
    | @cons r v rs vs hrv _ ih =>
      rw [List.mapM_cons]
      have h1 : (resF a r).run C.P w = .ok v w := by
        cases hrv with
        | tmp ht => subst ht; rw [← hr.tmp]; rfl
        | @cell1 t ty ad v hp hT hrd =>
          rw [← hr.tmp] at hp
          show (do loadVar ty (← asAddr (a.tmps.getD t undef)) : Sem Value).run C.P w = _
          rw [hp]
          exact run_load1 hT (hrd.cell hs)
        | @cellN t ty b o k vs hp hT hk hrd hl =>
          rw [← hr.tmp] at hp
          show (do loadVar ty (← asAddr (a.tmps.getD t undef)) : Sem Value).run C.P w = _
          rw [hp]
          exact run_loadN hT hk hl (hrd.cells hs)
      rw [run_bind h1, run_bind ih]; rfl
  have hk := key rs vs h
  have hres : results fn a.tmps = (do let vs ← fn.results.mapM (resF a); pure (if h : vs.size = 1 then vs[0] else .tuple vs)) := rfl
  rw [hres, hfn, List.mapM_toArray, map_eq_pure_bind, bind_assoc]
  rw [run_bind hk]
  simp only [pure_bind]
  cases vs with
  | nil => rfl
  | cons v vs => cases vs <;> rfl

/-- What a body must come to. -/
def ends (C : Ctx) (rs : List ResultVar) (R : Value → List Blk → Prop) : Post
  | .normal, e, L | .ret, e, L => ∃ vs L' G, Ress C e L rs vs ∧ Take L L' G ∧ R (res1 vs) L'
  | _, _, _ => False

/-- A function's contract out of its body's walk. -/
theorem Fn.of {P : Program} {f : FuncId} {fn : Func} {c : Code} {as : List Value} {w : World} {X : List Blk} {R : Value → List Blk → Prop} (n : Nat) (rs : List ResultVar) (hf : P.funcs[f]? = some fn) (hb : fn.body = some c) (hnt : fn.ntmps = n) (hrs : fn.results = rs.toArray) (hn : Nat.ble as.length n = true)
    (h : T ⟨P, w, X.map Blk.id, n⟩ c (ends ⟨P, w, X.map Blk.id, n⟩ rs R) (env0 as) X) : Fn P f as w X R := by
  intro hd hin
  subst hnt
  refine calls_of_wp hf hb ?_
  have := h { tmps := as.toArray ++ Array.replicate (fn.ntmps - as.toArray.size) undef, defers := [] } w (rel_start (Nat.le_of_ble_eq_true hn)) (St.start hd hin)
  refine wp_mono this ?_
  intro ex a w' ⟨e', L', hr', hs', hq⟩
  cases ex with
  | normal =>
    obtain ⟨vs, L2, G, h1, hk, h2⟩ := hq
    exact ⟨hr'.defers, _, run_res (C := ⟨P, w, X.map Blk.id, fn.ntmps⟩) hrs hr' hs' h1, _, L2, rfl, hk.keep hs', h2⟩
  | ret =>
    obtain ⟨vs, L2, G, h1, hk, h2⟩ := hq
    exact ⟨hr'.defers, _, run_res (C := ⟨P, w, X.map Blk.id, fn.ntmps⟩) hrs hr' hs' h1, _, L2, rfl, hk.keep hs', h2⟩
  | _ => exact hq.elim

/-- A contract that holds whatever else lies beside X; it is told in the caller's terms: the world in which the caller began (w0), the old blocks that the caller may write (M). -/
def FnX (P : Program) (f : FuncId) (as : List Value) (w0 : World) (M : List Nat) (X : List Blk) (R : Value → List Blk → Prop) : Prop :=
  ∀ G w, St w0 M (X ++ G) w → Calls P f as.toArray w fun en w' => ∃ v Y, en = .returned v ∧ St w0 M (Y ++ G) w' ∧ R v Y

theorem T1.callX {args : List Operand} {ts : Array TypeId} {f : FuncId} {as : List Value} {X G : List Blk} {R : Value → List Blk → Prop} (hf : Has C.P f) (has : args.map (ev C.n e) = as)
    (hc : FnX C.P f as C.w0 C.M X R) (ht : Take L X G) (k : ∀ v Y, R v Y → K (putO e dst v) (Y ++ G)) : T1 C ⟨dst, .call ⟨.value (.func f), args.toArray, ts⟩, ty, pos, after, guard⟩ K e L :=
  T1.callF (R := fun v L' => ∃ Y, L' = Y ++ G ∧ R v Y) hf has (fun w hs => (hc G w (hs.perm ht.perm.symm)).mono fun _ _ ⟨v, Y, h1, h2, h3⟩ => ⟨v, Y ++ G, h1, h2, Y, rfl, h3⟩) (fun v _ ⟨Y, h, hR⟩ => h ▸ k v Y hR)

theorem FnX.of {P : Program} {f : FuncId} {fn : Func} {c : Code} {as : List Value} {w0 : World} {M : List Nat} {X : List Blk} {R : Value → List Blk → Prop} (n : Nat) (rs : List ResultVar) (hf : P.funcs[f]? = some fn) (hb : fn.body = some c) (hnt : fn.ntmps = n) (hrs : fn.results = rs.toArray) (hn : Nat.ble as.length n = true)
    (h : ∀ G, T ⟨P, w0, M, n⟩ c (ends ⟨P, w0, M, n⟩ rs (fun v L' => ∃ Y, L' = Y ++ G ∧ R v Y)) (env0 as) (X ++ G)) : FnX P f as w0 M X R := by
  intro G w hst
  subst hnt
  refine calls_of_wp hf hb ?_
  have := h G { tmps := as.toArray ++ Array.replicate (fn.ntmps - as.toArray.size) undef, defers := [] } w (rel_start (Nat.le_of_ble_eq_true hn)) hst
  refine wp_mono this ?_
  intro ex a w' ⟨e', L', hr', hs', hq⟩
  cases ex with
  | normal =>
    obtain ⟨vs, L2, G2, h1, hk, Y, rfl, h2⟩ := hq
    exact ⟨hr'.defers, _, run_res (C := ⟨P, w0, M, fn.ntmps⟩) hrs hr' hs' h1, _, Y, rfl, hk.keep hs', h2⟩
  | ret =>
    obtain ⟨vs, L2, G2, h1, hk, Y, rfl, h2⟩ := hq
    exact ⟨hr'.defers, _, run_res (C := ⟨P, w0, M, fn.ntmps⟩) hrs hr' hs' h1, _, Y, rfl, hk.keep hs', h2⟩
  | _ => exact hq.elim

/-- Such a contract, from the world of the call on. -/
theorem FnX.fn {P : Program} {f : FuncId} {as : List Value} {w : World} {X : List Blk} {R : Value → List Blk → Prop} (h : FnX P f as w (X.map Blk.id) X R) : Fn P f as w X R := by
  intro hd hin
  have := h [] w (by simpa using St.start hd hin)
  simpa using this

end rules
end Go.Proofs.YtlpkcbkflfbclaaDoor.S
