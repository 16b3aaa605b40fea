/- Slices of one's own taken from their front; what is read wherever some blocks lie. Holds for every program. -/
import Derived.Test.YtlpkcbkflfbclaaDoorOps8
namespace Go.Proofs.YtlpkcbkflfbclaaDoor.S
open Go.RowKit

theorem Find.of_mem {B : Blk} : ∀ {L : List Blk}, B ∈ L → Find L B
  | _ :: _, h => by
    rcases List.mem_cons.1 h with rfl | h
    · exact .here
    · exact .there (Find.of_mem h)
theorem Blk.In.fwd {b off size l : Nat} {cells : List Value} {w : World} (h : Blk.In ⟨b, off, cells, size⟩ w) (hl : l ≤ cells.length) : Blk.In ⟨b, off + l, cells.drop l, size⟩ w := by
  obtain ⟨c, E, lo, hi, h1, h2, h3, h4⟩ := h.here
  have hr : off + cells.length ≤ size := h.room
  refine Blk.In.ofCells (by show off + l + (cells.drop l).length ≤ size; rw [List.length_drop]; omega) ⟨c, E, lo, hi, h1, h2, fun i hi => ?_, h4⟩
  show c[off + l + i]? = (cells.drop l)[i]?
  have hi' : i < (cells.drop l).length := hi
  rw [List.length_drop] at hi'
  have := h3 (l + i) (by show l + i < cells.length; omega)
  rw [List.getElem?_drop, Nat.add_assoc]; exact this
theorem Blk.In.none {b off size : Nat} {cells : List Value} {w : World} (h : Blk.In ⟨b, off, cells, size⟩ w) : Blk.In ⟨b, off, [], size⟩ w := by
  obtain ⟨c, E, lo, hi, h1, h2, h3, h4⟩ := h.here
  have hr : off + cells.length ≤ size := h.room
  exact Blk.In.ofCells (by show off + 0 ≤ size; omega) ⟨c, E, lo, hi, h1, h2, fun i hi => absurd hi (by show ¬ i < 0; omega), h4⟩
theorem St.view {w0 : World} {M : List Nat} {B B' : Blk} {L : List Blk} {w : World} (h : St w0 M (B :: L) w) (hid : B'.id = B.id) (hin : B.In w → B'.In w) : St w0 M (B' :: L) w :=
  h.turn (L' := B' :: L) .one hid rfl rfl rfl rfl (fun _ _ => rfl) (hin (h.inw B (by simp)))

section
variable {C : Ctx} {K : Env → List Blk → Prop} {e : Env} {L : List Blk} {dst : Option Tmp} {ty : TypeId} {pos : String} {after : Array Edge} {guard : Option (Nat × Bool)}
/-- An operation that leaves the world, but what is known of memory is told otherwise. -/
theorem T1.re {o : Oper} {v : Value} {L' : List Blk} (hv : V1 C o e L v) (hL : ∀ w, St C.w0 C.M L w → St C.w0 C.M L' w) (k : K (putO e o.dst v) L') : T1 C o K e L := by
  intro a w K' Q' hr hs hK
  unfold Oper.wp
  rw [hr.eval, hv w hs]
  exact hK _ _ _ _ (hr.put _ _) (hL w hs) k
/-- A slice of one's own from number l on. -/
theorem T1.sliceFwd {t el : TypeId} {x : Operand} {lo hi : Option Operand} {v : Value} {cells : List Value} {Ls G : List Blk} (hT : C.P.underlying t = some (.slice el)) (hk : SizeIs C.P el 1) (hx : ev C.n e x = v) (hsl : Sl v cells 1 Ls) (hp : PickS L Ls G) (l : Nat)
    (hl : bd C.n e lo 0 = some (l : Int)) (hh : bd C.n e hi cells.length = some (cells.length : Int)) (hle : l ≤ cells.length) (k : ∀ v' Ls', Sl v' (cells.drop l) 1 Ls' → K (putO e dst v') (Ls' ++ G)) : T1 C ⟨dst, .slice t x lo hi none, ty, pos, after, guard⟩ K e L := by
  rcases hsl with ⟨rfl, rfl, rfl⟩ | ⟨b, off, len, cap, size, rfl, h1, h2, h3, rfl⟩
  · obtain rfl : l = 0 := by simpa using hle
    exact T1.re (V1.sliceNil hT hk hx hl hh) (fun w hs => hs.perm hp.perm.symm) (k _ [] Sl.nil)
  · rw [Nat.mul_one] at h1 h3
    subst h1
    by_cases hc : cap = l
    · subst hc
      have hlen : cells.length = cap := by omega
      have hd : cells.drop cap = [] := List.drop_eq_nil_of_le (by omega)
      refine T1.re (V1.sliceSl hT hk hx hl hh (by omega) (by omega) (by omega)) (L' := ⟨b, off, cells.drop cap, size⟩ :: G) (fun w hs => ?_) (k _ [_] (.inr ⟨b, off, cells.length - cap, cap - cap, size, ?_, ?_, by omega, by omega, rfl⟩))
      · rw [hd]; exact (hs.perm hp.perm.symm).view rfl Blk.In.none
      · simp
      · rw [hd]; simp; omega
    · refine T1.re (V1.sliceSl hT hk hx hl hh (by omega) (by omega) (by omega)) (L' := ⟨b, off + l, cells.drop l, size⟩ :: G) (fun w hs => (hs.perm hp.perm.symm).view rfl (fun h => h.fwd hle)) (k _ [_] (.inr ⟨b, off + l, cells.length - l, cap - l, size, ?_, by simp, by omega, by omega, rfl⟩))
      simp [hc]
/-- A slice of one's own up to a number. -/
theorem V1.sliceTo {t el : TypeId} {x : Operand} {lo hi : Option Operand} {b o len cap : Nat} (h : Nat) (hT : C.P.underlying t = some (.slice el)) (hk : SizeIs C.P el 1) (hx : ev C.n e x = .slice (some ⟨b, o, none⟩) len cap)
    (hl : bd C.n e lo 0 = some 0) (hh : bd C.n e hi len = some (h : Int)) (h1 : h ≤ len) (h2 : len ≤ cap) : V1 C ⟨dst, .slice t x lo hi none, ty, pos, after, guard⟩ e L (.slice (some ⟨b, o, none⟩) h cap) := by
  have := V1.sliceSl (dst := dst) (ty := ty) (pos := pos) (after := after) (guard := guard) (L := L) hT hk hx hl hh (by omega) (by omega) (by omega)
  simpa using this
theorem V1.makeFunc1 {fn : Go.Fn} {x : Operand} {v : Value} (hx : ev C.n e x = v) : V1 C ⟨dst, .makeFunc fn #[x] #[], ty, pos, after, guard⟩ e L (.func fn #[v] #[]) := by
  have := V1.makeFunc (C := C) (e := e) (L := L) (dst := dst) (ty := ty) (pos := pos) (after := after) (guard := guard) (fn := fn) (first := #[x]) (cap := #[])
  simp only [List.map_toArray, List.map_cons, List.map_nil] at this
  rw [hx] at this; exact this
end

/-- Some bytes in a slice, to be read wherever the blocks Ps lie. -/
structure PartR (w0 : World) (Ps : List Blk) (v : Value) (p : List UInt8) : Prop where
  form : ∃ a c, v = .slice a p.length c
  src : ∀ C : Ctx, C.w0 = w0 → C.M = [] → ∀ L, (∀ B ∈ Ps, B ∈ L) → Src C L 1 v p.length (p.map byteV)
theorem PartR.old {w0 : World} {Ps : List Blk} {v : Value} {p : List UInt8} (h : SlR w0 v 1 p.length (p.map byteV)) : PartR w0 Ps v p :=
  ⟨h.form, fun C h0 hm L _ => by subst h0; exact h.src hm⟩
theorem PartR.own {w0 : World} {Ps Ls : List Blk} {v : Value} {p : List UInt8} (h : Sl v (p.map byteV) 1 Ls) (hs : ∀ B ∈ Ls, B ∈ Ps) : PartR w0 Ps v p := by
  rcases h with ⟨rfl, h, rfl⟩ | ⟨b, off, len, cap, size, rfl, h1, h2, h3, rfl⟩
  · obtain rfl : p = [] := by simpa using h
    exact ⟨⟨_, _, rfl⟩, fun C _ _ L _ => .nil⟩
  · rw [List.length_map, Nat.mul_one] at h1
    subst h1
    exact ⟨⟨_, _, rfl⟩, fun C _ _ L hL => .sl (RdN.at0 (Find.of_mem (hL _ (hs ⟨b, off, p.map byteV, size⟩ (by simp))))) (by simp)⟩
theorem PartR.more {w0 : World} {Ps Qs : List Blk} {v : Value} {p : List UInt8} (h : PartR w0 Ps v p) (hs : ∀ B ∈ Ps, B ∈ Qs) : PartR w0 Qs v p :=
  ⟨h.form, fun C h0 hm L hL => h.src C h0 hm L fun B hB => hL B (hs B hB)⟩
/-- A piece of a block. -/
theorem PartR.piece {w0 : World} {Ps : List Blk} {b off o c size : Nat} {cells : List Value} {p : List UInt8} (hB : (⟨b, off, cells, size⟩ : Blk) ∈ Ps) (hp : (cells.drop o).take p.length = p.map byteV) : PartR w0 Ps (.slice (some ⟨b, off + o, none⟩) p.length c) p :=
  ⟨⟨_, _, rfl⟩, fun C _ _ L hL => .sl (by rw [← hp]; exact RdN.sub (Find.of_mem (hL _ hB))) (by simp)⟩
/-- Some parts. -/
structure PartsR (w0 : World) (Ps : List Blk) (v : Value) (ps : List (List UInt8)) : Prop where
  form : ∃ a c, v = .slice a ps.length c
  elems : ∃ svs : List Value, svs.length = ps.length ∧ (∀ C : Ctx, C.w0 = w0 → C.M = [] → ∀ L, (∀ B ∈ Ps, B ∈ L) → Src C L 1 v ps.length svs) ∧ ∀ (i : Nat) (sv : Value) (p : List UInt8), svs[i]? = some sv → ps[i]? = some p → PartR w0 Ps sv p
theorem Src.inv {C : Ctx} {L : List Blk} {k m : Nat} {v : Value} {vs : List Value} (h : Src C L k v m vs) : ∀ a n c, v = .slice a n c → m = 0 ∨ ∃ b o, a = some ⟨b, o, none⟩ ∧ RdN C L ⟨b, o, none⟩ vs := by
  cases h with
  | nil => intro _ _ _ _; exact .inl rfl
  | odd => intro _ _ _ _; exact .inl rfl
  | sl hr _ => intro a n c hv; cases hv; exact .inr ⟨_, _, rfl, hr⟩
  | str _ => intro a n c hv; cases hv
theorem PartsR.at {P : Program} {w0 : World} {Ps : List Blk} {a : Option Addr} {n c : Nat} {ps : List (List UInt8)} (h : PartsR w0 Ps (.slice a n c) ps) {k : Nat} (hk : k < ps.length) :
    ∃ b o sv p, a = some ⟨b, o, none⟩ ∧ ps[k]? = some p ∧ PartR w0 Ps sv p ∧ ∀ C : Ctx, C.w0 = w0 → C.M = [] → ∀ L, (∀ B ∈ Ps, B ∈ L) → Rd C L ⟨b, o + k * 1, none⟩ sv := by
  obtain ⟨svs, hl, hsrc, hel⟩ := h.elems
  have hsv : svs[k]? = some svs[k] := List.getElem?_eq_getElem (by omega)
  have hp : ps[k]? = some ps[k] := List.getElem?_eq_getElem hk
  obtain ⟨b, o, rfl⟩ : ∃ b o, a = some ⟨b, o, none⟩ := by
    rcases (hsrc ⟨P, w0, [], 0⟩ rfl rfl Ps (fun _ h => h)).inv _ _ _ rfl with h0 | ⟨b, o, h0, _⟩
    · omega
    · exact ⟨b, o, h0⟩
  refine ⟨b, o, svs[k], ps[k], rfl, hp, hel k _ _ hsv hp, fun C h0 hm L hL => ?_⟩
  rcases (hsrc C h0 hm L hL).inv _ _ _ rfl with h0 | ⟨b', o', h0, hr⟩
  · omega
  · cases h0
    rw [Nat.mul_one]
    exact hr k _ hsv
/-- One part, in a block of one's own. -/
theorem PartsR.ones {w0 : World} {Ps : List Blk} {b : Nat} {svs : List Value} {ps : List (List UInt8)} {c size : Nat} (hB : (⟨b, 0, svs, size⟩ : Blk) ∈ Ps) (hl : svs.length = ps.length) (h : ∀ (i : Nat) (sv : Value) (p : List UInt8), svs[i]? = some sv → ps[i]? = some p → PartR w0 Ps sv p) : PartsR w0 Ps (.slice (some ⟨b, 0, none⟩) ps.length c) ps :=
  ⟨⟨_, _, rfl⟩, svs, hl, fun C _ _ L hL => .sl (RdN.at0 (Find.of_mem (hL _ hB))) (by omega), h⟩

section
variable {C : Ctx} {K : Env → List Blk → Prop} {e : Env} {L : List Blk} {dst : Option Tmp} {ty : TypeId} {pos : String} {after : Array Edge} {guard : Option (Nat × Bool)}
theorem run_eqNil {P : Program} {t el : TypeId} (hT : P.underlying t = some (.pointer el)) (a : Addr) (w : World) : (Op.equal t (.pointer (some a)) (.pointer none)).run P w = .ok false w := by
  unfold Op.equal Op.maxDepth Op.equalIn
  rw [run_bind (run_underlying hT w)]; rfl
/-- A pointer that leads somewhere is not nil. -/
theorem V1.eqNil {t yt el : TypeId} {x y : Operand} {a : Addr} (hT : C.P.underlying t = some (.pointer el)) (hx : ev C.n e x = .pointer (some a)) (hy : ev C.n e y = .pointer none) : V1 C ⟨dst, .binOp .eql t x y yt, ty, pos, after, guard⟩ e L (.bool false) :=
  V1.run (s := do eqGuard .eql t x y (ev C.n e x) (ev C.n e y); binOp .eql t (ev C.n e x) (ev C.n e y)) rfl (fun w _ => by
    rw [hx, hy]
    show (do pure (Value.bool (← Op.equal t (.pointer (some a)) (.pointer none))) : Sem Value).run C.P w = _
    rw [run_bind (run_eqNil hT a w)]; rfl)
end
end Go.Proofs.YtlpkcbkflfbclaaDoor.S
