/- Slices of one's own taken from their front; what is read wherever some blocks lie. Holds for every program. Append of made noughts. Holds for every program. Slices of slices that came in: an inner one that is empty may lie anywhere. Holds for every program. Laws for what strings.Builder does: blocks that bear their type, pointers turned and turned back, bytes handed on as a string. Holds for every program. Loops gone through round by round. Holds for every program. Contracts that read some blocks and write others, told in terms of the world in which the law began. Holds for every program. Regions that draw their order, with something kept in mind until one operation (number k, which waits for the readers) has come: behind it nothing is asked. Holds for every program. Slices of elements of several cells put together. Holds for every program. Slices of one's own cut, copied onto themselves, grown by noughts; whether two slices overlap. Holds for every program. Regions that draw their order, gone through once: each operation has a fact of its own, which stays true as blocks come. Holds for every program. -/
import Derived.Test.YtijijaobialncaaOps6
import Derived.Lib.Builder
import Derived.Lib.UnsafeStr
import Derived.Lib.MakeNoZero
import Derived.Laws.Externs
import Derived.LoopN
import Derived.Lib.Overlaps
namespace Go.Proofs.Ytijijaobialncaa.S
open Go.RowKit

theorem Find.of_mem {B : Blk} : ∀ {L : List Blk}, B ∈ L → Find L B
  | _ :: _, h => by
    rcases List.mem_cons.1 h with rfl | h
    · exact .here
    · exact .there (Find.of_mem h)
theorem Blk.In.fwd {b off size l : Nat} {cells : List Value} {w : World} (h : Blk.In ⟨b, off, cells, size⟩ w) (hl : l ≤ cells.length) : Blk.In ⟨b, off + l, cells.drop l, size⟩ w := by
  obtain ⟨c, E, lo, hi, h1, h2, h3, h4⟩ := h.here
  have hr : off + cells.length ≤ size := h.room
  refine Blk.In.ofCells (by show off + l + (cells.drop l).length ≤ size; rw [List.length_drop]; omega) ⟨c, E, lo, hi, h1, h2, fun i hi => ?_, h4⟩
  show c[off + l + i]? = (cells.drop l)[i]?
  have hi' : i < (cells.drop l).length := hi
  rw [List.length_drop] at hi'
  have := h3 (l + i) (by show l + i < cells.length; omega)
  rw [List.getElem?_drop, Nat.add_assoc]; exact this
theorem Blk.In.none {b off size : Nat} {cells : List Value} {w : World} (h : Blk.In ⟨b, off, cells, size⟩ w) : Blk.In ⟨b, off, [], size⟩ w := by
  obtain ⟨c, E, lo, hi, h1, h2, h3, h4⟩ := h.here
  have hr : off + cells.length ≤ size := h.room
  exact Blk.In.ofCells (by show off + 0 ≤ size; omega) ⟨c, E, lo, hi, h1, h2, fun i hi => absurd hi (by show ¬ i < 0; omega), h4⟩
theorem St.view {w0 : World} {M : List Nat} {B B' : Blk} {L : List Blk} {w : World} (h : St w0 M (B :: L) w) (hid : B'.id = B.id) (hin : B.In w → B'.In w) : St w0 M (B' :: L) w :=
  h.turn (L' := B' :: L) .one hid rfl rfl rfl rfl (fun _ _ => rfl) (hin (h.inw B (by simp)))

section
variable {C : Ctx} {K : Env → List Blk → Prop} {e : Env} {L : List Blk} {dst : Option Tmp} {ty : TypeId} {pos : String} {after : Array Edge} {guard : Option (Nat × Bool)}
/-- An operation that leaves the world, but what is known of memory is told otherwise. -/
theorem T1.re {o : Oper} {v : Value} {L' : List Blk} (hv : V1 C o e L v) (hL : ∀ w, St C.w0 C.M L w → St C.w0 C.M L' w) (k : K (putO e o.dst v) L') : T1 C o K e L := by
  intro a w K' Q' hr hs hK
  unfold Oper.wp
  rw [hr.eval, hv w hs]
  exact hK _ _ _ _ (hr.put _ _) (hL w hs) k
end

theorem Src.inv {C : Ctx} {L : List Blk} {k m : Nat} {v : Value} {vs : List Value} (h : Src C L k v m vs) : ∀ a n c, v = .slice a n c → m = 0 ∨ ∃ b o, a = some ⟨b, o, none⟩ ∧ RdN C L ⟨b, o, none⟩ vs := by
  cases h with
  | nil => intro _ _ _ _; exact .inl rfl
  | odd => intro _ _ _ _; exact .inl rfl
  | sl hr _ => intro a n c hv; cases hv; exact .inr ⟨_, _, rfl, hr⟩
  | str _ => intro a n c hv; cases hv
section
variable {C : Ctx} {K : Env → List Blk → Prop} {e : Env} {L : List Blk} {dst : Option Tmp} {ty : TypeId} {pos : String} {after : Array Edge} {guard : Option (Nat × Bool)}
end
end Go.Proofs.Ytijijaobialncaa.S

namespace Go.Proofs.Ytijijaobialncaa.S
open Go.RowKit

section rules
variable {C : Ctx} {K : Env → List Blk → Prop} {e : Env} {L : List Blk}
variable {dst : Option Tmp} {ty : TypeId} {pos : String} {after : Array Edge} {guard : Option (Nat × Bool)}

end rules
end Go.Proofs.Ytijijaobialncaa.S

namespace Go.Proofs.Ytijijaobialncaa.S
open Go.RowKit

section
variable {C : Ctx} {e : Env} {L : List Blk} {dst : Option Tmp} {ty : TypeId} {pos : String} {after : Array Edge} {guard : Option (Nat × Bool)}
end
end Go.Proofs.Ytijijaobialncaa.S

namespace Go.Proofs.Ytijijaobialncaa.S
open Go.RowKit

section
variable {C : Ctx} {K : Env → List Blk → Prop} {e : Env} {L : List Blk}
variable {dst : Option Tmp} {ty : TypeId} {pos : String} {after : Array Edge} {guard : Option (Nat × Bool)}

end
end Go.Proofs.Ytijijaobialncaa.S

namespace Go.Proofs.Ytijijaobialncaa.S
open Go.RowKit

/-- A loop that ends within n rounds. -/
def TR (C : Ctx) (c : Code) (Q : Post) (n : Nat) (e : Env) (L : List Blk) : Prop := ∀ a w, Rel C.n e a → St C.w0 C.M L w → Code.rounds C.P c (lift C Q) n a w
def rndU (C : Ctx) (c : Code) (Q : Post) (n : Nat) : Post
  | .normal, e, L => TR C c Q n e L
  | x, e, L => Q x e L
theorem T.rounds {C : Ctx} {c : Code} {Q : Post} {e : Env} {L : List Blk} (n : Nat) (h : TR C c Q n e L) : T C (.loop c) Q e L := fun a w hr hs => wp_loop_rounds n (h a w hr hs)
theorem TR.step {C : Ctx} {c : Code} {Q : Post} {n : Nat} {e : Env} {L : List Blk} (h : T C c (rndU C c Q n) e L) : TR C c Q (n + 1) e L := by
  intro a w hr hs
  show c.wp C.P (Exit.then (Code.rounds C.P c (lift C Q) n) (lift C Q)) a w
  refine wp_mono (h a w hr hs) ?_
  intro ex a' w' ⟨e', L', hr', hs', hq⟩
  cases ex with
  | normal => exact hq a' w' hr' hs'
  | _ => exact ⟨e', L', hr', hs', hq⟩
section
variable {C : Ctx} {e : Env} {L : List Blk}
theorem TK.three {S : List Blk → Prop} {ops : Array Oper} {Q : Post} {fuel : Nat} {listed : Array Bool} (i j k : Nat) {oi oj ok : Oper} (hr : Region.ready .any ops listed = [i, j, k]) (hoi : ops[i]? = some oi) (hoj : ops[j]? = some oj) (hok : ops[k]? = some ok) (hgi : wantedE C.n ops e oi.guard = true) (hgj : wantedE C.n ops e oj.guard = true) (hgk : wantedE C.n ops e ok.guard = true)
    (hi : T1 C oi (fun e' L' => S L' ∧ TD C S ops Q fuel (listed.setIfInBounds i true) e' L') e L) (hj : T1 C oj (fun e' L' => S L' ∧ TD C S ops Q fuel (listed.setIfInBounds j true) e' L') e L) (hk : T1 C ok (fun e' L' => S L' ∧ TD C S ops Q fuel (listed.setIfInBounds k true) e' L') e L) : TD C S ops Q (fuel + 1) listed e L :=
  TD.all hr (by simp) fun q hq => by
    simp only [List.mem_cons, List.not_mem_nil, or_false] at hq
    rcases hq with rfl | rfl | rfl
    · exact ⟨oi, hoi, fun _ => hi, fun h0 => by rw [hgi] at h0; cases h0⟩
    · exact ⟨oj, hoj, fun _ => hj, fun h0 => by rw [hgj] at h0; cases h0⟩
    · exact ⟨ok, hok, fun _ => hk, fun h0 => by rw [hgk] at h0; cases h0⟩
end
end Go.Proofs.Ytijijaobialncaa.S

namespace Go.Proofs.Ytijijaobialncaa.S
open Go.RowKit

/-- These blocks are among those. -/
def Inc (A L : List Blk) : Prop := ∀ B ∈ A, B ∈ L
theorem Inc.nil {L : List Blk} : Inc [] L := fun _ h => by cases h
theorem Inc.refl {L : List Blk} : Inc L L := fun _ h => h
theorem Inc.here {A L : List Blk} : Inc A (A ++ L) := fun _ h => List.mem_append_left _ h
theorem Inc.skip {A X L : List Blk} (h : Inc A L) : Inc A (X ++ L) := fun B hB => List.mem_append_right _ (h B hB)
theorem Inc.skip1 {A L : List Blk} {X : Blk} (h : Inc A L) : Inc A (X :: L) := fun B hB => List.mem_cons_of_mem _ (h B hB)
theorem Inc.app {A B L : List Blk} (h1 : Inc A L) (h2 : Inc B L) : Inc (A ++ B) L := fun X hX => (List.mem_append.1 hX).elim (h1 X) (h2 X)
theorem Inc.cons {A L : List Blk} {B : Blk} (h1 : Find L B) (h2 : Inc A L) : Inc (B :: A) L := fun X hX => (List.mem_cons.1 hX).elim (fun h => h ▸ h1.mem) (h2 X)
theorem Inc.trans {A B L : List Blk} (h1 : Inc A B) (h2 : Inc B L) : Inc A L := fun X hX => h2 X (h1 X hX)
theorem Inc.find {A L : List Blk} {B : Blk} (h : Inc A L) (hB : B ∈ A) : Find L B := Find.of_mem (h B hB)
/-- What a function does that reads the blocks Ps, gets the blocks X and leaves the blocks Y in their place: whatever else (G) lies beside. -/
def FnG (P : Program) (f : FuncId) (as : List Value) (w0 : World) (Ps X : List Blk) (R : Value → List Blk → Prop) : Prop :=
  ∀ G w, Inc Ps G → St w0 [] (X ++ G) w → Calls P f as.toArray w fun en w' => ∃ v Y, en = .returned v ∧ St w0 [] (Y ++ G) w' ∧ R v Y
/-- .. that only reads. -/
def FnV (P : Program) (f : FuncId) (as : List Value) (w0 : World) (Ps : List Blk) (R : Value → Prop) : Prop := FnG P f as w0 Ps [] fun v Y => Y = [] ∧ R v

theorem FnG.mono {P : Program} {f : FuncId} {as : List Value} {w0 : World} {Ps X : List Blk} {R R' : Value → List Blk → Prop} (h : FnG P f as w0 Ps X R) (hR : ∀ v Y, R v Y → R' v Y) : FnG P f as w0 Ps X R' :=
  fun G w hG hs => (h G w hG hs).mono fun _ _ ⟨v, Y, h1, h2, h3⟩ => ⟨v, Y, h1, h2, hR v Y h3⟩
section
variable {C : Ctx} {K : Env → List Blk → Prop} {e : Env} {L : List Blk} {dst : Option Tmp} {ty : TypeId} {pos : String} {after : Array Edge} {guard : Option (Nat × Bool)}

/-- A call of a function's value by such a contract. -/
theorem T1.callGG {g : Operand} {args : List Operand} {ts : Array TypeId} {f : FuncId} {first cap : Array Value} {as : List Value} {Ps X G : List Blk} {R : Value → List Blk → Prop} (hg : ev C.n e g = .func (.func f) first cap) (hf : Has C.P f) (has : first ++ (args.map (ev C.n e)).toArray ++ cap = as.toArray) (hm : C.M = [])
    (hc : FnG C.P f as C.w0 Ps X R) (ht : Take L X G) (hi : Inc Ps G) (k : ∀ v Y, R v Y → K (putO e dst v) (Y ++ G)) : T1 C ⟨dst, .call ⟨.value g, args.toArray, ts⟩, ty, pos, after, guard⟩ K e L :=
  T1.call (R := fun v L' => ∃ Y, L' = Y ++ G ∧ R v Y) hg hf has (fun w hs => by
    rw [hm] at hs ⊢
    exact (hc G w hi (hs.perm ht.perm.symm)).mono fun _ _ ⟨v, Y, h1, h2, h3⟩ => ⟨v, Y ++ G, h1, h2, Y, rfl, h3⟩) (fun v _ ⟨Y, h, hR⟩ => h ▸ k v Y hR)
/-- .. that only reads. -/
theorem T1.callGV {g : Operand} {args : List Operand} {ts : Array TypeId} {f : FuncId} {first cap : Array Value} {as : List Value} {Ps : List Blk} {R : Value → Prop} (hg : ev C.n e g = .func (.func f) first cap) (hf : Has C.P f) (has : first ++ (args.map (ev C.n e)).toArray ++ cap = as.toArray) (hm : C.M = [])
    (hc : FnV C.P f as C.w0 Ps R) (hi : Inc Ps L) (k : ∀ v, R v → K (putO e dst v) L) : T1 C ⟨dst, .call ⟨.value g, args.toArray, ts⟩, ty, pos, after, guard⟩ K e L :=
  T1.callGG hg hf has hm hc Take.nil hi fun v Y ⟨h1, h2⟩ => by subst h1; exact k v h2
/-- A call by name. -/
theorem T1.callM {args : List Operand} {ts : Array TypeId} {f : FuncId} {as : List Value} {Ps X G : List Blk} {R : Value → List Blk → Prop} (hf : Has C.P f) (has : args.map (ev C.n e) = as) (hm : C.M = [])
    (hc : FnG C.P f as C.w0 Ps X R) (ht : Take L X G) (hi : Inc Ps G) (k : ∀ v Y, R v Y → K (putO e dst v) (Y ++ G)) : T1 C ⟨dst, .call ⟨.value (.func f), args.toArray, ts⟩, ty, pos, after, guard⟩ K e L :=
  T1.callGG (first := #[]) (cap := #[]) rfl hf (by simp [has]) hm hc ht hi k
/-- .. that makes new blocks and writes none. -/
theorem T1.callC {args : List Operand} {ts : Array TypeId} {f : FuncId} {as : List Value} {Ps : List Blk} {R : Value → List Blk → Prop} (hf : Has C.P f) (has : args.map (ev C.n e) = as) (hm : C.M = [])
    (hc : FnG C.P f as C.w0 Ps [] R) (hi : Inc Ps L) (k : ∀ v Y, R v Y → K (putO e dst v) (Y ++ L)) : T1 C ⟨dst, .call ⟨.value (.func f), args.toArray, ts⟩, ty, pos, after, guard⟩ K e L :=
  T1.callM hf has hm hc Take.nil hi k
/-- .. that only reads. -/
theorem T1.callV {args : List Operand} {ts : Array TypeId} {f : FuncId} {as : List Value} {Ps : List Blk} {R : Value → Prop} (hf : Has C.P f) (has : args.map (ev C.n e) = as) (hm : C.M = [])
    (hc : FnV C.P f as C.w0 Ps R) (hi : Inc Ps L) (k : ∀ v, R v → K (putO e dst v) L) : T1 C ⟨dst, .call ⟨.value (.func f), args.toArray, ts⟩, ty, pos, after, guard⟩ K e L :=
  T1.callGV (first := #[]) (cap := #[]) rfl hf (by simp [has]) hm hc hi k

theorem FnG.of {P : Program} {f : FuncId} {fn : Func} {c : Code} {as : List Value} {w0 : World} {Ps X : List Blk} {R : Value → List Blk → Prop} (n : Nat) (rs : List ResultVar) (hf : P.funcs[f]? = some fn) (hb : fn.body = some c) (hnt : fn.ntmps = n) (hrs : fn.results = rs.toArray) (hn : Nat.ble as.length n = true)
    (h : ∀ G, Inc Ps G → T ⟨P, w0, [], n⟩ c (ends ⟨P, w0, [], n⟩ rs (fun v L' => ∃ Y, L' = Y ++ G ∧ R v Y)) (env0 as) (X ++ G)) : FnG P f as w0 Ps X R := by
  intro G w hG hst
  subst hnt
  refine calls_of_wp hf hb ?_
  have := h G hG { tmps := as.toArray ++ Array.replicate (fn.ntmps - as.toArray.size) undef, defers := [] } w (rel_start (Nat.le_of_ble_eq_true hn)) hst
  refine wp_mono this ?_
  intro ex a w' ⟨e', L', hr', hs', hq⟩
  cases ex with
  | normal =>
    obtain ⟨vs, L2, G2, h1, hk, Y, rfl, h2⟩ := hq
    exact ⟨hr'.defers, _, run_res (C := ⟨P, w0, [], fn.ntmps⟩) hrs hr' hs' h1, _, Y, rfl, hk.keep hs', h2⟩
  | ret =>
    obtain ⟨vs, L2, G2, h1, hk, Y, rfl, h2⟩ := hq
    exact ⟨hr'.defers, _, run_res (C := ⟨P, w0, [], fn.ntmps⟩) hrs hr' hs' h1, _, Y, rfl, hk.keep hs', h2⟩
  | _ => exact hq.elim
theorem FnV.of {P : Program} {f : FuncId} {fn : Func} {c : Code} {as : List Value} {w0 : World} {Ps : List Blk} {R : Value → Prop} (n : Nat) (rs : List ResultVar) (hf : P.funcs[f]? = some fn) (hb : fn.body = some c) (hnt : fn.ntmps = n) (hrs : fn.results = rs.toArray) (hn : Nat.ble as.length n = true)
    (h : ∀ G, Inc Ps G → T ⟨P, w0, [], n⟩ c (ends ⟨P, w0, [], n⟩ rs (fun v L' => L' = G ∧ R v)) (env0 as) G) : FnV P f as w0 Ps R := by
  refine FnG.of n rs hf hb hnt hrs hn fun G hG => (h G hG).mono ?_
  intro x e L hq
  cases x with
  | normal => obtain ⟨vs, L2, G2, h1, hk, rfl, h2⟩ := hq; exact ⟨vs, L2, G2, h1, hk, [], rfl, rfl, h2⟩
  | ret => obtain ⟨vs, L2, G2, h1, hk, rfl, h2⟩ := hq; exact ⟨vs, L2, G2, h1, hk, [], rfl, rfl, h2⟩
  | _ => exact hq
end

/-! ### Rows of elements, read wherever some blocks lie -/

/-- A slice of n elements of k cells each, to be read where the blocks Ps lie (or in the world in which the law began). -/
structure RowR (w0 : World) (Ps : List Blk) (k : Nat) (v : Value) (n : Nat) (vs : List Value) : Prop where
  form : ∃ a c, v = .slice a n c
  len : vs.length = n * k
  src : ∀ C : Ctx, C.w0 = w0 → C.M = [] → ∀ L, Inc Ps L → Src C L k v n vs
theorem RowR.more {w0 : World} {Ps Qs : List Blk} {k n : Nat} {v : Value} {vs : List Value} (h : RowR w0 Ps k v n vs) (hi : Inc Ps Qs) : RowR w0 Qs k v n vs :=
  ⟨h.form, h.len, fun C h0 hm L hL => h.src C h0 hm L (hi.trans hL)⟩
theorem RowR.nil {w0 : World} {Ps : List Blk} {k c : Nat} : RowR w0 Ps k (.slice none 0 c) 0 [] := ⟨⟨_, _, rfl⟩, by simp, fun _ _ _ _ _ => .nil⟩
theorem RowR.old {w0 : World} {Ps : List Blk} {k n : Nat} {v : Value} {vs : List Value} (h : SlR w0 v k n vs) : RowR w0 Ps k v n vs :=
  ⟨h.form, h.len, fun C h0 hm L _ => by subst h0; exact h.src hm⟩
theorem RowR.odd {w0 : World} {Ps : List Blk} {k c : Nat} {a : Addr} : RowR w0 Ps k (.slice (some a) 0 c) 0 [] := ⟨⟨_, _, rfl⟩, by simp, fun _ _ _ _ _ => .odd⟩
/-- One's own, in the block where it lies. -/
theorem RowR.own {w0 : World} {Ps : List Blk} {k n b off c size : Nat} {tg : Option TypeId} {vs : List Value} (hB : (⟨⟨b, tg⟩, off, vs, size⟩ : Blk) ∈ Ps) (hl : vs.length = n * k) : RowR w0 Ps k (.slice (some ⟨b, off, none⟩) n c) n vs :=
  ⟨⟨_, _, rfl⟩, hl, fun C _ _ L hL => .sl (RdN.at0 (hL.find hB)) hl⟩
theorem RowR.ofSl {w0 : World} {Ps Ls : List Blk} {k : Nat} {tg : Option TypeId} {v : Value} {vs : List Value} (h : SlG tg v vs k Ls) (hi : Inc Ls Ps) (hk : 0 < k) (n : Nat) (hn : vs.length = n * k) : RowR w0 Ps k v n vs := by
  rcases h with ⟨rfl, rfl, rfl⟩ | ⟨b, off, len, cap, size, rfl, h1, h2, h3, rfl⟩
  · have : n = 0 := by
      rcases Nat.eq_zero_or_pos n with h | h
      · exact h
      · have := Nat.mul_pos h hk; simp at hn; omega
    subst this; exact RowR.nil
  · have : n = len := Nat.eq_of_mul_eq_mul_right hk (by omega)
    subst this
    exact RowR.own (tg := tg) (size := size) (hi _ (List.mem_cons_self ..)) h1
theorem RowR.at {w0 : World} {Ps : List Blk} {k n c : Nat} {a : Option Addr} {vs : List Value} (h : RowR w0 Ps k (.slice a n c) n vs) (hn : 0 < n) (P : Program) : ∃ b o, a = some ⟨b, o, none⟩ ∧ ∀ C : Ctx, C.w0 = w0 → C.M = [] → ∀ L, Inc Ps L → RdN C L ⟨b, o, none⟩ vs := by
  obtain ⟨b, o, rfl⟩ : ∃ b o, a = some ⟨b, o, none⟩ := by
    rcases (h.src ⟨P, w0, [], 0⟩ rfl rfl Ps Inc.refl).inv _ _ _ rfl with h0 | ⟨b, o, h0, _⟩
    · omega
    · exact ⟨b, o, h0⟩
  refine ⟨b, o, rfl, fun C h0 hm L hL => ?_⟩
  rcases (h.src C h0 hm L hL).inv _ _ _ rfl with h0 | ⟨b', o', h0, hr⟩
  · omega
  · cases h0; exact hr
end Go.Proofs.Ytijijaobialncaa.S

namespace Go.Proofs.Ytijijaobialncaa.S
open Go.RowKit

section
variable {P : Program} {ops : Array Oper} {Q : Exit → Act → World → Prop} {S : World → Prop} {k : Nat}
/-- Whatever order is picked from here on; S holds behind every operation but number k. -/
def wpAnyK (P : Program) (ops : Array Oper) (Q : Exit → Act → World → Prop) (S : World → Prop) (k : Nat) : Nat → Array Bool → Act → World → Prop
  | 0, listed, a, w => Region.ready .any ops listed = [] ∧ Q .normal a w
  | fuel + 1, listed, a, w => (Region.ready .any ops listed = [] → Q .normal a w) ∧ ∀ i ∈ Region.ready .any ops listed, wpOp P ops Q i (fun a' w' => (i ≠ k → S w') ∧ wpAnyK P ops Q S k fuel (listed.setIfInBounds i true) a' w') a w
theorem wpAnyK.any : ∀ {fuel : Nat} {listed : Array Bool} {a : Act} {w : World}, wpAnyK P ops Q S k fuel listed a w → wpAny P .any ops Q fuel listed a w
  | 0, _, _, _, h => h
  | _ + 1, _, _, _, h => ⟨h.1, fun i hi => wpOp_mono (fun _ _ h' => h'.2.any) (h.2 i hi)⟩
/-- Does number k wait for number i? -/
def waits (ops : Array Oper) (k i : Nat) : Bool := match ops[k]? with | some o => o.after.toList.any (fun e => Region.binds .any e && e.on == i) | none => false
theorem waits_spec {i : Nat} (h : waits ops k i = true) : ∃ o, ops[k]? = some o ∧ ∃ e ∈ o.after, Region.binds .any e = true ∧ e.on = i := by
  unfold waits at h
  split at h
  · rename_i o ho
    rw [List.any_eq_true] at h
    obtain ⟨e, he, hb⟩ := h
    simp only [Bool.and_eq_true, beq_iff_eq] at hb
    exact ⟨o, ho, e, by simpa using he, hb.1, hb.2⟩
  · cases h
/-- A reader may be taken first, as long as number k, which waits for it, has not come. -/
theorem wpAnyK_first {i : Nat} {oi : Oper} {v : Value} (hi : ops[i]? = some oi) (hw : waits ops k i = true) (hik : i ≠ k) (hsel : ∀ (j : Nat) (o : Oper) cs b, ops[j]? = some o → o.op ≠ .select cs b) (hQ : ∀ c a w, Q (.panic c) (a.put oi.dst v) w → Q (.panic c) a w) (fuel : Nat) :
    ∀ (listed : Array Bool) (a : Act) (w : World), (∀ j oj, ops[j]? = some oj → j ≠ i → listed.getD j true = false → (∀ e ∈ oj.after, Region.binds .any e = true → e.on ≠ i) → oi.apart ops oj = true) → i ∈ Region.ready .any ops listed → YieldsIf P ops S oi v a → S w →
      wpAnyK P ops Q S k fuel (listed.setIfInBounds i true) (a.put oi.dst v) w → wpAnyK P ops Q S k (fuel + 1) listed a w := by
  have never : ∀ {listed : Array Bool} {j : Nat} {oj : Oper}, i ∈ Region.ready .any ops listed → j ∈ Region.ready .any ops listed → ops[j]? = some oj → ∀ e ∈ oj.after, Region.binds .any e = true → e.on ≠ i := by
    intro listed j oj hri hrj hoj e he hb heq
    obtain ⟨_, o', ho', hall⟩ := mem_ready.1 hrj
    rw [hoj] at ho'
    obtain rfl := Option.some.inj ho'
    have h1 := hall e he hb
    have h0 := (mem_ready.1 hri).1
    rw [heq] at h1
    rcases Nat.lt_or_ge i listed.size with h' | h'
    · simp [h'] at h0 h1; rw [h0] at h1; cases h1
    · simp [Array.getElem?_eq_none h'] at h1
  have notK : ∀ {listed : Array Bool} {j : Nat}, i ∈ Region.ready .any ops listed → j ∈ Region.ready .any ops listed → j ≠ k := by
    rintro listed j hri hrj rfl
    obtain ⟨o, ho, e, he, hb, hon⟩ := waits_spec hw
    exact never hri hrj ho e he hb hon
  induction fuel with
  | zero =>
    intro listed a w _ hr hy hS H
    refine ⟨fun h0 => absurd (h0 ▸ hr) (by simp), fun j hj => ?_⟩
    by_cases hji : j = i
    · subst hji; exact hy.wpOp hi hS ⟨fun _ => hS, H⟩
    · have := ready_mono hj hji
      rw [H.1] at this; cases this
  | succ fuel ih =>
    intro listed a w hfree hr hy hS H
    refine ⟨fun h0 => absurd (h0 ▸ hr) (by simp), fun j hj => ?_⟩
    by_cases hji : j = i
    · subst hji; exact hy.wpOp hi hS ⟨fun _ => hS, H⟩
    · obtain ⟨hjun, oj, hoj, _⟩ := mem_ready.1 hj
      have hpass := wpOp_putIf hoj (hfree j oj hoj hji hjun (never hr hj hoj)) (fun cs b => hsel i oi cs b hi) (fun cs b => hsel j oj cs b hoj) hQ hy (H.2 j (ready_mono hj hji))
      refine wpOp_mono (fun a' w' ⟨hy', hS', hrest⟩ => ⟨hS', ?_⟩) hpass
      have hSw := hS' (notK hr hj)
      refine ih (listed.setIfInBounds j true) a' w' (fun m om hm hmi hun hno => hfree m om hm hmi ?_ hno) (ready_mono hr (Ne.symm hji)) hy' hSw ?_
      · by_cases hjm : j = m
        · subst hjm; exact hjun
        · rwa [getD_set_ne true hjm] at hun
      · rw [Array.setIfInBounds_comm _ _ hji]; exact hrest
end

section
variable {C : Ctx} {e : Env} {L : List Blk} {S : List Blk → Prop} {k : Nat} {ops : Array Oper} {Q : Post} {fuel : Nat} {listed : Array Bool}
def TX (C : Ctx) (S : List Blk → Prop) (k : Nat) (ops : Array Oper) (Q : Post) (fuel : Nat) (listed : Array Bool) (e : Env) (L : List Blk) : Prop :=
  ∀ a w, Rel C.n e a → St C.w0 C.M L w → (listed.getD k true = false → S L) → wpAnyK C.P ops (lift C Q) (fun w => ∃ L, St C.w0 C.M L w ∧ S L) k fuel listed a w
theorem T.drawX {id : Nat} {l : List Oper} {Q : Post} (S : List Blk → Prop) (k : Nat) (hm : C.P.follows .mixedOrders = true) (hS : S L) (h : TX C S k l.toArray Q l.toArray.size (Array.replicate l.toArray.size false) e L) : T C (.region id l.toArray true) Q e L :=
  fun a _ hr hs => wp_region_any hm (wpAnyK.any (h a _ hr (hs.drew _ (Nat.le_succ _)) (fun _ => hS)))
theorem TX.done (hr : Region.ready .any ops listed = []) (h : Q .normal e L) : TX C S k ops Q fuel listed e L := by
  intro a w hrel hs _
  cases fuel with
  | zero => exact ⟨hr, e, L, hrel, hs, h⟩
  | succ n => exact ⟨fun _ => ⟨e, L, hrel, hs, h⟩, by rw [hr]; simp⟩
def okX (ops : Array Oper) (k : Nat) (listed : Array Bool) (i : Nat) : Bool := waits ops k i && !(Nat.beq i k) && !(listed.getD k true)
theorem TX.take (i : Nat) {o : Oper} {v : Value} (hi : ops[i]? = some o) (hsel : Region.noSelect ops = true) (hf : Region.free .any ops listed i = true) (hr : (Region.ready .any ops listed).contains i = true) (hk : okX ops k listed i = true)
    (hg : wantedE C.n ops e o.guard = true) (hQ : ∀ c e L, ¬ Q (.panic c) e L) (hy : ∀ L, S L → V1 C o e L v)
    (h : TX C S k ops Q fuel (listed.setIfInBounds i true) (putO e o.dst v) L) : TX C S k ops Q (fuel + 1) listed e L := by
  intro a w hrel hs hS
  unfold okX at hk
  simp only [Bool.and_eq_true, Bool.not_eq_true'] at hk
  have hik : i ≠ k := fun he => by have := hk.1.2; rw [he, Nat.beq_refl] at this; cases this
  have hSL := hS hk.2
  refine wpAnyK_first hi hk.1.1 hik (Region.noSelect_spec hsel) ?_ fuel listed a w (Region.free_spec hi hf) (by simpa using hr) ?_ ⟨L, hs, hSL⟩ (h _ _ (hrel.put _ _) hs (fun _ => hSL))
  · rintro c a w ⟨e', L', _, _, hq⟩
    exact absurd hq (hQ c e' L')
  · refine .inl ⟨by rw [wanted_eq hrel]; exact hg, ?_⟩
    rintro w' ⟨L', hs', hS'⟩
    rw [hrel.eval]
    exact hy L' hS' w' hs'
theorem TX.all {rs : List Nat} (hr : Region.ready .any ops listed = rs) (hne : rs ≠ [])
    (h : ∀ i ∈ rs, ∃ o, ops[i]? = some o ∧ Tg C ops o (fun e' L' => (i ≠ k → S L') ∧ TX C S k ops Q fuel (listed.setIfInBounds i true) e' L') e L) : TX C S k ops Q (fuel + 1) listed e L := by
  intro a w hrel hs _
  refine ⟨fun h0 => absurd (hr ▸ h0) hne, fun i hi => ?_⟩
  have hi' := hi
  rw [hr] at hi
  obtain ⟨o, ho, hg1, hg0⟩ := h i hi
  have hil : i < listed.size := by
    have := (mem_ready.1 hi').1
    rcases Nat.lt_or_ge i listed.size with h' | h'
    · exact h'
    · simp [Array.getElem?_eq_none h'] at this
  have hnext : ∀ L', (i ≠ k → S L') → (listed.setIfInBounds i true).getD k true = false → S L' := by
    intro L' hS' hk
    refine hS' fun he => ?_
    subst he
    simp [hil] at hk
  unfold wpOp
  simp only [ho]
  rw [wanted_eq hrel]
  cases hw : wantedE C.n ops e o.guard with
  | true =>
    simp only [if_true]
    refine .inl (hg1 hw a w _ _ hrel hs ?_)
    intro a' w' e' L' hr' hs' ⟨hS', hT'⟩
    exact ⟨fun hik => ⟨L', hs', hS' hik⟩, hT' a' w' hr' hs' (hnext L' hS')⟩
  | false =>
    simp only [Bool.false_eq_true, if_false]
    obtain ⟨hS', hT'⟩ := hg0 hw
    exact ⟨fun hik => ⟨L, hs, hS' hik⟩, hT' _ _ (hrel.put _ _) hs (hnext L hS')⟩
theorem T1.and {o : Oper} {K K' : Env → List Blk → Prop} (h : T1 C o K e L) (hk : ∀ e L, K e L → K' e L) : T1 C o K' e L := fun a w K'' Q' hr hs hK => h a w K'' Q' hr hs fun a' w' e' L' h1 h2 h3 => hK a' w' e' L' h1 h2 (hk _ _ h3)
theorem TX.one (i : Nat) {o : Oper} (hr : Region.ready .any ops listed = [i]) (ho : ops[i]? = some o) (hg : wantedE C.n ops e o.guard = true)
    (h : T1 C o (fun e' L' => S L' ∧ TX C S k ops Q fuel (listed.setIfInBounds i true) e' L') e L) : TX C S k ops Q (fuel + 1) listed e L :=
  TX.all hr (by simp) fun j hj => by
    obtain rfl : j = i := by simpa using hj
    exact ⟨o, ho, fun _ => T1.and h fun _ _ h => ⟨fun _ => h.1, h.2⟩, fun h0 => by rw [hg] at h0; cases h0⟩
theorem TX.oneK {o : Oper} (hr : Region.ready .any ops listed = [k]) (ho : ops[k]? = some o) (hg : wantedE C.n ops e o.guard = true)
    (h : T1 C o (fun e' L' => TX C S k ops Q fuel (listed.setIfInBounds k true) e' L') e L) : TX C S k ops Q (fuel + 1) listed e L :=
  TX.all hr (by simp) fun j hj => by
    obtain rfl : j = k := by simpa using hj
    exact ⟨o, ho, fun _ => T1.and h fun _ _ h => ⟨fun hn => absurd rfl hn, h⟩, fun h0 => by rw [hg] at h0; cases h0⟩
end
end Go.Proofs.Ytijijaobialncaa.S

namespace Go.Proofs.Ytijijaobialncaa.S
open Go.RowKit

section
variable {C : Ctx} {K : Env → List Blk → Prop} {e : Env} {L : List Blk} {dst : Option Tmp} {ty : TypeId} {pos : String} {after : Array Edge} {guard : Option (Nat × Bool)}
/-- A function's value that holds one variable. -/
theorem V1.makeFuncC {fn : Go.Fn} {x : Operand} {v : Value} (hx : ev C.n e x = v) : V1 C ⟨dst, .makeFunc fn #[] #[x], ty, pos, after, guard⟩ e L (.func fn #[] #[v]) := by
  subst hx
  have := V1.makeFunc (C := C) (e := e) (L := L) (dst := dst) (ty := ty) (pos := pos) (after := after) (guard := guard) (fn := fn) (first := #[]) (cap := #[x])
  simpa using this
/-- A slice of one element of so many cells. -/
theorem T1.buildOne {t el : TypeId} {k : Nat} {x : Operand} {cs : List Value} {z : Value} (hT : C.P.underlying t = some (.slice el)) (hk : SizeIs C.P el k) (hz : ZeroIs C.P el z) (h16 : k ≤ 16777216) (hx : ev C.n e x = .agg cs.toArray) (hl : cs.length = k)
    (kk : ∀ b, K (putO e dst (.slice (some ⟨b, 0, none⟩) 1 1)) (⟨⟨b, some el⟩, 0, cs, k⟩ :: L)) : T1 C ⟨dst, .buildSlice t 1 (List.toArray [(0, x)]), ty, pos, after, guard⟩ K e L := by
  refine T1.buildSliceG (tg := some el) (vs := [.agg cs.toArray]) hT hk hz (by omega) (by simp [hx]) rfl (fun v hv => by rw [List.mem_singleton] at hv; subst hv; simpa [Value.cells] using hl) (.inr rfl) (fun b => ?_)
  have := kk b
  simpa [Value.cells] using this
end
end Go.Proofs.Ytijijaobialncaa.S

namespace Go.Proofs.Ytijijaobialncaa.S
open Go.RowKit

section
variable {C : Ctx} {K : Env → List Blk → Prop} {e : Env} {L : List Blk} {dst : Option Tmp} {ty : TypeId} {pos : String} {after : Array Edge} {guard : Option (Nat × Bool)}
/-- A slice cut, not at its capacity's end. -/
theorem V1.sliceK {t el : TypeId} {x : Operand} {lo hi : Option Operand} {b o len cap kz : Nat} (l h : Nat) (hT : C.P.underlying t = some (.slice el)) (hk : SizeIs C.P el kz) (hx : ev C.n e x = .slice (some ⟨b, o, none⟩) len cap) (hl : bd C.n e lo 0 = some (l : Int)) (hh : bd C.n e hi len = some (h : Int)) (h1 : l ≤ h) (h2 : h ≤ cap) (h3 : l < cap) :
    V1 C ⟨dst, .slice t x lo hi none, ty, pos, after, guard⟩ e L (.slice (some ⟨b, o + l * kz, none⟩) (h - l) (cap - l)) := by
  have := V1.sliceSl (C := C) (e := e) (L := L) (dst := dst) (ty := ty) (pos := pos) (after := after) (guard := guard) hT hk hx hl hh (by omega) (by omega) (by omega)
  simp only [Int.toNat_natCast] at this
  rwa [if_neg (by omega)] at this
/-- .. wherever; of the place nothing is said. -/
theorem V1.sliceAny {t el : TypeId} {x : Operand} {lo hi : Option Operand} {b o len cap kz : Nat} (l h : Nat) (hT : C.P.underlying t = some (.slice el)) (hk : SizeIs C.P el kz) (hx : ev C.n e x = .slice (some ⟨b, o, none⟩) len cap) (hl : bd C.n e lo 0 = some (l : Int)) (hh : bd C.n e hi len = some (h : Int)) (h1 : l ≤ h) (h2 : h ≤ cap) :
    V1 C ⟨dst, .slice t x lo hi none, ty, pos, after, guard⟩ e L (.slice (some ⟨b, if cap = l then o else o + l * kz, none⟩) (h - l) (cap - l)) := by
  have := V1.sliceSl (C := C) (e := e) (L := L) (dst := dst) (ty := ty) (pos := pos) (after := after) (guard := guard) hT hk hx hl hh (by omega) (by omega) (by omega)
  simpa only [Int.toNat_natCast] using this

theorem V1.eqSlNil {t yt el : TypeId} {x y : Operand} {a : Option Addr} {n c : Nat} (hT : C.P.underlying t = some (.slice el)) (hx : ev C.n e x = .slice a n c) (hy : ev C.n e y = .slice none 0 0) : V1 C ⟨dst, .binOp .eql t x y yt, ty, pos, after, guard⟩ e L (.bool a.isNone) :=
  V1.run (s := do eqGuard .eql t x y (ev C.n e x) (ev C.n e y); binOp .eql t (ev C.n e x) (ev C.n e y)) rfl (fun w _ => by
    rw [hx, hy]
    show (do pure (Value.bool (← Op.equal t (.slice a n c) (.slice none 0 0))) : Sem Value).run C.P w = _
    have : (Op.equal t (.slice a n c) (.slice none 0 0)).run C.P w = .ok a.isNone w := by
      unfold Op.equal Op.maxDepth Op.equalIn
      rw [run_bind (run_underlying hT w)]
      cases a <;> rfl
    rw [run_bind this]; rfl)
end
end Go.Proofs.Ytijijaobialncaa.S

namespace Go.Proofs.Ytijijaobialncaa.S
open Go.RowKit

section
variable {C : Ctx} {Q : Post} {l : List Oper} {F : Nat → Value → List Blk → Prop} {e0 : Env} {L0 : List Blk} {k : Nat}
end

/-! ### Facts that stay true -/
end Go.Proofs.Ytijijaobialncaa.S
