/- Contracts that read some blocks and write others, told in terms of the world in which the law began. Holds for every program. -/
import Derived.Test.YtlpkcbkflfbclaaDoorOpsD
namespace Go.Proofs.YtlpkcbkflfbclaaDoor.S
open Go.RowKit

/-- These blocks are among those. -/
def Inc (A L : List Blk) : Prop := ∀ B ∈ A, B ∈ L
theorem Inc.nil {L : List Blk} : Inc [] L := fun _ h => by cases h
theorem Inc.refl {L : List Blk} : Inc L L := fun _ h => h
theorem Inc.here {A L : List Blk} : Inc A (A ++ L) := fun _ h => List.mem_append_left _ h
theorem Inc.skip {A X L : List Blk} (h : Inc A L) : Inc A (X ++ L) := fun B hB => List.mem_append_right _ (h B hB)
theorem Inc.skip1 {A L : List Blk} {X : Blk} (h : Inc A L) : Inc A (X :: L) := fun B hB => List.mem_cons_of_mem _ (h B hB)
theorem Inc.app {A B L : List Blk} (h1 : Inc A L) (h2 : Inc B L) : Inc (A ++ B) L := fun X hX => (List.mem_append.1 hX).elim (h1 X) (h2 X)
theorem Inc.cons {A L : List Blk} {B : Blk} (h1 : Find L B) (h2 : Inc A L) : Inc (B :: A) L := fun X hX => (List.mem_cons.1 hX).elim (fun h => h ▸ h1.mem) (h2 X)
theorem Inc.left {A X L : List Blk} (h : Inc A X) : Inc A (X ++ L) := fun B hB => List.mem_append_left _ (h B hB)
theorem Inc.trans {A B L : List Blk} (h1 : Inc A B) (h2 : Inc B L) : Inc A L := fun X hX => h2 X (h1 X hX)
theorem Inc.find {A L : List Blk} {B : Blk} (h : Inc A L) (hB : B ∈ A) : Find L B := Find.of_mem (h B hB)
theorem Inc.of_sub {A L : List Blk} (h : A.Sublist L) : Inc A L := fun _ hB => h.subset hB

/-- What a function does that reads the blocks Ps, gets the blocks X and leaves the blocks Y in their place: whatever else (G) lies beside. -/
def FnG (P : Program) (f : FuncId) (as : List Value) (w0 : World) (Ps X : List Blk) (R : Value → List Blk → Prop) : Prop :=
  ∀ G w, Inc Ps G → St w0 [] (X ++ G) w → Calls P f as.toArray w fun en w' => ∃ v Y, en = .returned v ∧ St w0 [] (Y ++ G) w' ∧ R v Y
/-- .. that only reads. -/
def FnV (P : Program) (f : FuncId) (as : List Value) (w0 : World) (Ps : List Blk) (R : Value → Prop) : Prop := FnG P f as w0 Ps [] fun v Y => Y = [] ∧ R v

theorem FnG.more {P : Program} {f : FuncId} {as : List Value} {w0 : World} {Ps Qs X : List Blk} {R : Value → List Blk → Prop} (h : FnG P f as w0 Ps X R) (hi : Inc Ps Qs) : FnG P f as w0 Qs X R := fun G w hG hs => h G w (hi.trans hG) hs
theorem FnG.mono {P : Program} {f : FuncId} {as : List Value} {w0 : World} {Ps X : List Blk} {R R' : Value → List Blk → Prop} (h : FnG P f as w0 Ps X R) (hR : ∀ v Y, R v Y → R' v Y) : FnG P f as w0 Ps X R' :=
  fun G w hG hs => (h G w hG hs).mono fun _ _ ⟨v, Y, h1, h2, h3⟩ => ⟨v, Y, h1, h2, hR v Y h3⟩
theorem FnG.ofFn {P : Program} {f : FuncId} {as : List Value} {w0 : World} {R : Value → List Blk → Prop} (h : ∀ w, Fn P f as w [] R) : FnG P f as w0 [] [] R :=
  fun G w _ hs => (h w (by simp) (by simp)).mono fun _ _ ⟨v, Y, h1, h2, h3⟩ => ⟨v, Y, h1, hs.call_add h2, h3⟩

section
variable {C : Ctx} {K : Env → List Blk → Prop} {e : Env} {L : List Blk} {dst : Option Tmp} {ty : TypeId} {pos : String} {after : Array Edge} {guard : Option (Nat × Bool)}

/-- A call of a function's value by such a contract. -/
theorem T1.callGG {g : Operand} {args : List Operand} {ts : Array TypeId} {f : FuncId} {first cap : Array Value} {as : List Value} {Ps X G : List Blk} {R : Value → List Blk → Prop} (hg : ev C.n e g = .func (.func f) first cap) (hf : Has C.P f) (has : first ++ (args.map (ev C.n e)).toArray ++ cap = as.toArray) (hm : C.M = [])
    (hc : FnG C.P f as C.w0 Ps X R) (ht : Take L X G) (hi : Inc Ps G) (k : ∀ v Y, R v Y → K (putO e dst v) (Y ++ G)) : T1 C ⟨dst, .call ⟨.value g, args.toArray, ts⟩, ty, pos, after, guard⟩ K e L :=
  T1.call (R := fun v L' => ∃ Y, L' = Y ++ G ∧ R v Y) hg hf has (fun w hs => by
    rw [hm] at hs ⊢
    exact (hc G w hi (hs.perm ht.perm.symm)).mono fun _ _ ⟨v, Y, h1, h2, h3⟩ => ⟨v, Y ++ G, h1, h2, Y, rfl, h3⟩) (fun v _ ⟨Y, h, hR⟩ => h ▸ k v Y hR)
/-- .. that only reads. -/
theorem T1.callGV {g : Operand} {args : List Operand} {ts : Array TypeId} {f : FuncId} {first cap : Array Value} {as : List Value} {Ps : List Blk} {R : Value → Prop} (hg : ev C.n e g = .func (.func f) first cap) (hf : Has C.P f) (has : first ++ (args.map (ev C.n e)).toArray ++ cap = as.toArray) (hm : C.M = [])
    (hc : FnV C.P f as C.w0 Ps R) (hi : Inc Ps L) (k : ∀ v, R v → K (putO e dst v) L) : T1 C ⟨dst, .call ⟨.value g, args.toArray, ts⟩, ty, pos, after, guard⟩ K e L :=
  T1.callGG hg hf has hm hc Take.nil hi fun v Y ⟨h1, h2⟩ => by subst h1; exact k v h2
/-- A call by name. -/
theorem T1.callM {args : List Operand} {ts : Array TypeId} {f : FuncId} {as : List Value} {Ps X G : List Blk} {R : Value → List Blk → Prop} (hf : Has C.P f) (has : args.map (ev C.n e) = as) (hm : C.M = [])
    (hc : FnG C.P f as C.w0 Ps X R) (ht : Take L X G) (hi : Inc Ps G) (k : ∀ v Y, R v Y → K (putO e dst v) (Y ++ G)) : T1 C ⟨dst, .call ⟨.value (.func f), args.toArray, ts⟩, ty, pos, after, guard⟩ K e L :=
  T1.callGG (first := #[]) (cap := #[]) rfl hf (by simp [has]) hm hc ht hi k
/-- .. that makes new blocks and writes none. -/
theorem T1.callC {args : List Operand} {ts : Array TypeId} {f : FuncId} {as : List Value} {Ps : List Blk} {R : Value → List Blk → Prop} (hf : Has C.P f) (has : args.map (ev C.n e) = as) (hm : C.M = [])
    (hc : FnG C.P f as C.w0 Ps [] R) (hi : Inc Ps L) (k : ∀ v Y, R v Y → K (putO e dst v) (Y ++ L)) : T1 C ⟨dst, .call ⟨.value (.func f), args.toArray, ts⟩, ty, pos, after, guard⟩ K e L :=
  T1.callM hf has hm hc Take.nil hi k
/-- .. that only reads. -/
theorem T1.callV {args : List Operand} {ts : Array TypeId} {f : FuncId} {as : List Value} {Ps : List Blk} {R : Value → Prop} (hf : Has C.P f) (has : args.map (ev C.n e) = as) (hm : C.M = [])
    (hc : FnV C.P f as C.w0 Ps R) (hi : Inc Ps L) (k : ∀ v, R v → K (putO e dst v) L) : T1 C ⟨dst, .call ⟨.value (.func f), args.toArray, ts⟩, ty, pos, after, guard⟩ K e L :=
  T1.callGV (first := #[]) (cap := #[]) rfl hf (by simp [has]) hm hc hi k

theorem FnG.of {P : Program} {f : FuncId} {fn : Func} {c : Code} {as : List Value} {w0 : World} {Ps X : List Blk} {R : Value → List Blk → Prop} (n : Nat) (rs : List ResultVar) (hf : P.funcs[f]? = some fn) (hb : fn.body = some c) (hnt : fn.ntmps = n) (hrs : fn.results = rs.toArray) (hn : Nat.ble as.length n = true)
    (h : ∀ G, Inc Ps G → T ⟨P, w0, [], n⟩ c (ends ⟨P, w0, [], n⟩ rs (fun v L' => ∃ Y, L' = Y ++ G ∧ R v Y)) (env0 as) (X ++ G)) : FnG P f as w0 Ps X R := by
  intro G w hG hst
  subst hnt
  refine calls_of_wp hf hb ?_
  have := h G hG { tmps := as.toArray ++ Array.replicate (fn.ntmps - as.toArray.size) undef, defers := [] } w (rel_start (Nat.le_of_ble_eq_true hn)) hst
  refine wp_mono this ?_
  intro ex a w' ⟨e', L', hr', hs', hq⟩
  cases ex with
  | normal =>
    obtain ⟨vs, L2, G2, h1, hk, Y, rfl, h2⟩ := hq
    exact ⟨hr'.defers, _, run_res (C := ⟨P, w0, [], fn.ntmps⟩) hrs hr' hs' h1, _, Y, rfl, hk.keep hs', h2⟩
  | ret =>
    obtain ⟨vs, L2, G2, h1, hk, Y, rfl, h2⟩ := hq
    exact ⟨hr'.defers, _, run_res (C := ⟨P, w0, [], fn.ntmps⟩) hrs hr' hs' h1, _, Y, rfl, hk.keep hs', h2⟩
  | _ => exact hq.elim
theorem FnV.of {P : Program} {f : FuncId} {fn : Func} {c : Code} {as : List Value} {w0 : World} {Ps : List Blk} {R : Value → Prop} (n : Nat) (rs : List ResultVar) (hf : P.funcs[f]? = some fn) (hb : fn.body = some c) (hnt : fn.ntmps = n) (hrs : fn.results = rs.toArray) (hn : Nat.ble as.length n = true)
    (h : ∀ G, Inc Ps G → T ⟨P, w0, [], n⟩ c (ends ⟨P, w0, [], n⟩ rs (fun v L' => L' = G ∧ R v)) (env0 as) G) : FnV P f as w0 Ps R := by
  refine FnG.of n rs hf hb hnt hrs hn fun G hG => (h G hG).mono ?_
  intro x e L hq
  cases x with
  | normal => obtain ⟨vs, L2, G2, h1, hk, rfl, h2⟩ := hq; exact ⟨vs, L2, G2, h1, hk, [], rfl, rfl, h2⟩
  | ret => obtain ⟨vs, L2, G2, h1, hk, rfl, h2⟩ := hq; exact ⟨vs, L2, G2, h1, hk, [], rfl, rfl, h2⟩
  | _ => exact hq
/-- Such a contract, from the world of the call on. -/
theorem FnV.fn {P : Program} {f : FuncId} {as : List Value} {w : World} {R : Value → Prop} (h : FnV P f as w [] R) : Fn P f as w [] (fun v _ => R v) := by
  intro _ _
  have := h [] w Inc.nil (by simpa using St.start (L := []) (by simp) (by simp))
  exact this.mono fun _ _ ⟨v, Y, h1, h2, h3, h4⟩ => ⟨v, Y, h1, by simpa using h2, h4⟩
end

/-! ### Rows of elements, read wherever some blocks lie -/

/-- A slice of n elements of k cells each, to be read where the blocks Ps lie (or in the world in which the law began). -/
structure RowR (w0 : World) (Ps : List Blk) (k : Nat) (v : Value) (n : Nat) (vs : List Value) : Prop where
  form : ∃ a c, v = .slice a n c
  len : vs.length = n * k
  src : ∀ C : Ctx, C.w0 = w0 → C.M = [] → ∀ L, Inc Ps L → Src C L k v n vs
theorem RowR.more {w0 : World} {Ps Qs : List Blk} {k n : Nat} {v : Value} {vs : List Value} (h : RowR w0 Ps k v n vs) (hi : Inc Ps Qs) : RowR w0 Qs k v n vs :=
  ⟨h.form, h.len, fun C h0 hm L hL => h.src C h0 hm L (hi.trans hL)⟩
theorem RowR.nil {w0 : World} {Ps : List Blk} {k c : Nat} : RowR w0 Ps k (.slice none 0 c) 0 [] := ⟨⟨_, _, rfl⟩, by simp, fun _ _ _ _ _ => .nil⟩
theorem RowR.old {w0 : World} {Ps : List Blk} {k n : Nat} {v : Value} {vs : List Value} (h : SlR w0 v k n vs) : RowR w0 Ps k v n vs :=
  ⟨h.form, h.len, fun C h0 hm L _ => by subst h0; exact h.src hm⟩
theorem RowR.odd {w0 : World} {Ps : List Blk} {k c : Nat} {a : Addr} : RowR w0 Ps k (.slice (some a) 0 c) 0 [] := ⟨⟨_, _, rfl⟩, by simp, fun _ _ _ _ _ => .odd⟩
/-- One's own, in the block where it lies. -/
theorem RowR.own {w0 : World} {Ps : List Blk} {k n b off c size : Nat} {tg : Option TypeId} {vs : List Value} (hB : (⟨⟨b, tg⟩, off, vs, size⟩ : Blk) ∈ Ps) (hl : vs.length = n * k) : RowR w0 Ps k (.slice (some ⟨b, off, none⟩) n c) n vs :=
  ⟨⟨_, _, rfl⟩, hl, fun C _ _ L hL => .sl (RdN.at0 (hL.find hB)) hl⟩
theorem RowR.ofSl {w0 : World} {Ps Ls : List Blk} {k : Nat} {tg : Option TypeId} {v : Value} {vs : List Value} (h : SlG tg v vs k Ls) (hi : Inc Ls Ps) (hk : 0 < k) (n : Nat) (hn : vs.length = n * k) : RowR w0 Ps k v n vs := by
  rcases h with ⟨rfl, rfl, rfl⟩ | ⟨b, off, len, cap, size, rfl, h1, h2, h3, rfl⟩
  · have : n = 0 := by
      rcases Nat.eq_zero_or_pos n with h | h
      · exact h
      · have := Nat.mul_pos h hk; simp at hn; omega
    subst this; exact RowR.nil
  · have : n = len := Nat.eq_of_mul_eq_mul_right hk (by omega)
    subst this
    exact RowR.own (tg := tg) (size := size) (hi _ (List.mem_cons_self ..)) h1
theorem RowR.at {w0 : World} {Ps : List Blk} {k n c : Nat} {a : Option Addr} {vs : List Value} (h : RowR w0 Ps k (.slice a n c) n vs) (hn : 0 < n) (P : Program) : ∃ b o, a = some ⟨b, o, none⟩ ∧ ∀ C : Ctx, C.w0 = w0 → C.M = [] → ∀ L, Inc Ps L → RdN C L ⟨b, o, none⟩ vs := by
  obtain ⟨b, o, rfl⟩ : ∃ b o, a = some ⟨b, o, none⟩ := by
    rcases (h.src ⟨P, w0, [], 0⟩ rfl rfl Ps Inc.refl).inv _ _ _ rfl with h0 | ⟨b, o, h0, _⟩
    · omega
    · exact ⟨b, o, h0⟩
  refine ⟨b, o, rfl, fun C h0 hm L hL => ?_⟩
  rcases (h.src C h0 hm L hL).inv _ _ _ rfl with h0 | ⟨b', o', h0, hr⟩
  · omega
  · cases h0; exact hr
/-- One element of it. -/
theorem RdN.elem {C : Ctx} {L : List Blk} {b o k n i : Nat} {vs : List Value} (h : RdN C L ⟨b, o, none⟩ vs) (hl : vs.length = n * k) (hi : i < n) : RdN C L ⟨b, o + i * k, none⟩ ((vs.drop (i * k)).take k) ∧ ((vs.drop (i * k)).take k).length = k := by
  have hle : i * k + k ≤ n * k := by rw [← Nat.succ_mul]; exact Nat.mul_le_mul_right _ hi
  refine ⟨fun j v hv => ?_, by simp; omega⟩
  rw [List.getElem?_take] at hv
  split at hv
  · rw [List.getElem?_drop] at hv
    have := h (i * k + j) v hv
    show Rd C L ⟨b, o + i * k + j, none⟩ v
    rw [Nat.add_assoc]; exact this
  · cases hv
end Go.Proofs.YtlpkcbkflfbclaaDoor.S
