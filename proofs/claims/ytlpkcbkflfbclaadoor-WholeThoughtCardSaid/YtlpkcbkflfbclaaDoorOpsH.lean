/- Slices of one's own cut, copied onto themselves, grown by noughts; whether two slices overlap. Holds for every program. -/
import Derived.Test.YtlpkcbkflfbclaaDoorOpsG
import Derived.Test.YtlpkcbkflfbclaaDoorOpsA
import Derived.Lib.Overlaps
namespace Go.Proofs.YtlpkcbkflfbclaaDoor.S
open Go.RowKit

section
variable {C : Ctx} {K : Env → List Blk → Prop} {e : Env} {L : List Blk} {dst : Option Tmp} {ty : TypeId} {pos : String} {after : Array Edge} {guard : Option (Nat × Bool)}
/-- A slice cut, not at its capacity's end. -/
theorem V1.sliceK {t el : TypeId} {x : Operand} {lo hi : Option Operand} {b o len cap kz : Nat} (l h : Nat) (hT : C.P.underlying t = some (.slice el)) (hk : SizeIs C.P el kz) (hx : ev C.n e x = .slice (some ⟨b, o, none⟩) len cap) (hl : bd C.n e lo 0 = some (l : Int)) (hh : bd C.n e hi len = some (h : Int)) (h1 : l ≤ h) (h2 : h ≤ cap) (h3 : l < cap) :
    V1 C ⟨dst, .slice t x lo hi none, ty, pos, after, guard⟩ e L (.slice (some ⟨b, o + l * kz, none⟩) (h - l) (cap - l)) := by
  have := V1.sliceSl (C := C) (e := e) (L := L) (dst := dst) (ty := ty) (pos := pos) (after := after) (guard := guard) hT hk hx hl hh (by omega) (by omega) (by omega)
  simp only [Int.toNat_natCast] at this
  rwa [if_neg (by omega)] at this
/-- .. wherever; of the place nothing is said. -/
theorem V1.sliceAny {t el : TypeId} {x : Operand} {lo hi : Option Operand} {b o len cap kz : Nat} (l h : Nat) (hT : C.P.underlying t = some (.slice el)) (hk : SizeIs C.P el kz) (hx : ev C.n e x = .slice (some ⟨b, o, none⟩) len cap) (hl : bd C.n e lo 0 = some (l : Int)) (hh : bd C.n e hi len = some (h : Int)) (h1 : l ≤ h) (h2 : h ≤ cap) :
    V1 C ⟨dst, .slice t x lo hi none, ty, pos, after, guard⟩ e L (.slice (some ⟨b, if cap = l then o else o + l * kz, none⟩) (h - l) (cap - l)) := by
  have := V1.sliceSl (C := C) (e := e) (L := L) (dst := dst) (ty := ty) (pos := pos) (after := after) (guard := guard) hT hk hx hl hh (by omega) (by omega) (by omega)
  simpa only [Int.toNat_natCast] using this

/-- A row of cells written over from a place on, to its known end and beyond. -/
theorem In_over {w : World} {B : Blk} (h : B.In w) {o : Nat} {vs : List Value} (h1 : B.off ≤ o) (h2 : o ≤ B.off + B.cells.length) (h3 : B.off + B.cells.length ≤ o + vs.length) (h4 : o + vs.length ≤ B.size) (hm : B.key.mp.v = false := by rfl) :
    (⟨B.key, B.off, B.cells.take (o - B.off) ++ vs, B.size⟩ : Blk).In (setCellsAt w B.id o vs) := by
  obtain ⟨c, E, lo, hi, hh, hsz, hk, hf⟩ := h.here hm
  obtain ⟨c', g1, g2, g3⟩ := setCellsAt_block B.id vs o w c E (lo, hi) hh
  refine Blk.In.ofCells (by simp; omega) ⟨c', E, lo, hi, g1, by show c'.size = B.size; omega, fun i hi' => ?_, hf⟩ hm
  show c'[B.off + i]? = (B.cells.take (o - B.off) ++ vs)[i]?
  simp only [List.length_append, List.length_take] at hi'
  rw [g3, List.getElem?_append, List.length_take]
  by_cases hc : i < min (o - B.off) B.cells.length
  · rw [if_neg (by omega), if_pos hc, List.getElem?_take, if_pos (by omega)]; exact hk i (by omega)
  · rw [if_pos ⟨by omega, by omega, by omega⟩, if_neg hc]; congr 1; omega
theorem T1.copyX {x y : Operand} {t yt el : TypeId} {k n len cap b o off size : Nat} {tg : Option TypeId} {v : Value} {cells new : List Value} {L' : List Blk} (hT : C.P.underlying t = some (.slice el)) (hk : SizeIs C.P el k)
    (hx : ev C.n e x = .slice (some ⟨b, o, none⟩) len cap) (hyv : ev C.n e y = v) (m : Nat) (hm : m = min n len) (hlen : ∀ w, (Builtin.lenOf v).run C.P w = .ok n w) (hsrc : ∀ w, St C.w0 C.M L w → (Builtin.firstCells k m v).run C.P w = .ok new.toArray w) (hone : ∀ u ∈ new, one u = true)
    (h1 : off ≤ o) (h2 : o ≤ off + cells.length) (h3 : off + cells.length ≤ o + new.length) (h4 : o + new.length ≤ size) (hu : Sub L [⟨⟨b, tg⟩, off, cells, size⟩] L' [⟨⟨b, tg⟩, off, cells.take (o - off) ++ new, size⟩]) (kk : K (putO e dst (.int .i64 m)) L') :
    T1 C ⟨dst, .call ⟨.builtin .copy, (List.toArray [x, y]), (List.toArray [t, yt])⟩, ty, pos, after, guard⟩ K e L := by
  intro a w K' Q' hr hs hK
  unfold Oper.wp
  rw [hr.eval]
  have hexec : execOp (ev C.n e) ⟨dst, .call ⟨.builtin .copy, (List.toArray [x, y]), (List.toArray [t, yt])⟩, ty, pos, after, guard⟩ = (do pure (Next.value (← Builtin.copy_ #[t, yt] ty #[.slice (some ⟨b, o, none⟩) len cap, v])) : Sem Next) := by
    show Go.builtin .copy #[t, yt] ty ((List.toArray [x, y]).map fun | .const _ => true | _ => false) ((List.toArray [x, y]).map (ev C.n e)) = _
    rw [show (List.toArray [x, y]).map (ev C.n e) = #[.slice (some ⟨b, o, none⟩) len cap, v] from by rw [List.map_toArray]; simp [hx, hyv]]
    rfl
  rw [hexec]
  have hin := (hs.piece hu).2 ⟨⟨b, tg⟩, off, cells, size⟩ (by simp)
  obtain ⟨c, E, lo, hi, hh, hsz, _, hf⟩ := hin.here
  have hsz' : c.size = size := hsz
  have hst := run_storeCells (P := C.P) new o 0 w c E lo hi hh (by omega) (by intro q hq; have hf' : lo = hi ∨ size ≤ lo := hf.1; omega) hone
  have hrun : (Builtin.copy_ #[t, yt] ty #[.slice (some ⟨b, o, none⟩) len cap, v]).run C.P w = .ok (.int .i64 m) (setCellsAt w b (o + 0) new) := by
    unfold Builtin.copy_
    simp only [List.getElem?_toArray, List.getElem?_cons_zero, List.getElem?_cons_succ]
    rw [run_bind (run_underlying hT w)]
    simp only
    rw [run_bind (hlen w), run_bind (run_sizeOf hk w), show Nat.min n len = m from hm.symm, run_bind (hsrc w hs)]
    simp only
    rw [run_bind hst]; rfl
  rw [run_value hrun]
  obtain ⟨f1, f2, f3, f4, f5⟩ := setCellsAt_fields b new (o + 0) w
  refine hK _ _ _ _ (hr.put _ _) (hs.turn hu rfl f1 f2 f3 f4 f5 ?_) kk
  exact In_over hin h1 h2 h3 h4
/-- The first elements of a slice, where its cells are read. -/
theorem firstCells_rd {k m b o n c : Nat} {vs : List Value} (hrd : RdN C L ⟨b, o, none⟩ vs) (hl : vs.length = m * k) {w : World} (hs : St C.w0 C.M L w) : (Builtin.firstCells k m (.slice (some ⟨b, o, none⟩) n c)).run C.P w = .ok vs.toArray w := run_loadCells hl (hrd.cells hs)

/-- append of noughts onto a slice that has no room for them. -/
theorem zero_cells {zl : List Value} (h0 : 0 < zl.length) (n : Nat) : Builtin.zeroCells zl.toArray n = (List.replicate n zl).flatten.toArray := by
  unfold Builtin.zeroCells
  apply Array.ext'
  have hfl : ∀ (m : Nat), (List.replicate m zl).flatten.length = m * zl.length := fun m => by simp
  apply List.ext_getElem?
  intro i
  simp only [List.size_toArray, Array.toList_map, Array.toList_range]
  by_cases h : i < n * zl.length
  · have hq : i / zl.length < n := Nat.div_lt_of_lt_mul (by rwa [Nat.mul_comm] at h)
    have hx : (List.replicate n zl)[i / zl.length]? = some zl := by rw [List.getElem?_replicate, if_pos hq]
    have hd := flatten_drop (List.replicate n zl) (i / zl.length) (fun x hx => by rw [List.eq_of_mem_replicate hx]) zl hx
    have hm := Nat.mod_lt i h0
    have e : (List.replicate n zl).flatten[i]? = zl[i % zl.length]? := by
      have h2 : (((List.replicate n zl).flatten.drop (i / zl.length * zl.length)).take zl.length)[i % zl.length]? = zl[i % zl.length]? := by rw [hd]
      rw [← h2, List.getElem?_take, if_pos hm, List.getElem?_drop]
      congr 1
      have := Nat.div_add_mod i zl.length
      rw [Nat.mul_comm] at this; omega
    rw [List.getElem?_map, List.getElem?_range h, Option.map_some, e, List.getElem?_eq_getElem hm, getElem!_pos zl.toArray (i % zl.length) (by simpa using hm)]
    simp
  · rw [List.getElem?_eq_none (by simpa using h), List.getElem?_eq_none (by rw [hfl]; omega)]
theorem run_appendZK {P : Program} {t yt el : TypeId} {i : TypeInfo} {zl : List Value} (hT : P.underlying t = some (.slice el)) (hY : P.underlying yt = some (.int .i64)) (hi : P.info? el = some i) (hk : i.size = zl.length) (hk0 : 0 < zl.length) (hz : i.zero = some (.agg zl.toArray)) {base : Option Addr} {sLen sCap n : Nat} {old : List Value} {w : World}
    (hn : n * i.bytes ≤ 281474976710656) (hn2 : n ≤ 281474976710656) (h3 : (Builtin.firstCells zl.length sLen (.slice base sLen sCap)).run P w.drew = .ok old.toArray w.drew) (hlt : sCap < sLen + n)
    (h0 : n ≠ 0) (h63 : ((sLen + n : Nat) : Int) ≤ 9223372036854775807) (hfit : Builtin.nextslicecap (sLen + n) sCap * i.bytes ≤ 281474976710656) :
    (Builtin.append_ #[t, yt] ty #[.slice base sLen sCap, .int .i64 n]).run P w = .ok (.slice (some ⟨w.heap.size, 0, none⟩) (sLen + n) (grownCap w (sLen + n) sCap el))
      (w.drew.alloc (.cells ((old ++ (List.replicate n zl).flatten).toArray ++ Builtin.zeroCells zl.toArray (grownCap w (sLen + n) sCap el - (sLen + n))) el)) := by
  have h1 : ¬ ((n : Int) < 0) := by omega
  have h2 := made_fits hn
  have hw := wrap64n hn2
  have hn' : ¬ (sLen + n ≤ sCap) := by omega
  have h63' : ¬ (9223372036854775807 < ((sLen : Int) + (n : Int))) := by omega
  have h48' : ¬ (281474976710656 < Builtin.nextslicecap (sLen + n) sCap * i.bytes) := by omega
  have hzc : (Value.agg zl.toArray).cells = zl.toArray := rfl
  simp [Builtin.append_, Go.run_underlying hT, Go.run_underlying hY, sizeOf, typeInfo, zeroValue, hi, hz, hzc, asInt, asIntOf, hw, h1, h2, hk, h0, hn', h63', h48', Question.forced, h3, newRow, grownCap, zero_cells hk0]
  intro hz0
  rcases Nat.mul_eq_zero.1 hz0 with h | h <;> omega
theorem T1.appendZK {x y : Operand} {t yt el : TypeId} {n bytes b o sLen sCap : Nat} {zl old : List Value} (hT : C.P.underlying t = some (.slice el)) (hY : C.P.underlying yt = some (.int .i64))
    (hk : SizeIs C.P el zl.length) (hk0 : 0 < zl.length) (hb : BytesIs C.P el bytes) (hz : ZeroIs C.P el (.agg zl.toArray)) (hbpos : 0 < bytes) (hx : ev C.n e x = .slice (some ⟨b, o, none⟩) sLen sCap) (hyv : ev C.n e y = .int .i64 (n : Int)) (hrd : RdN C L ⟨b, o, none⟩ old) (hl : old.length = sLen * zl.length) (hcap : sLen ≤ sCap) (hlt : sCap < sLen + n) (h0 : n ≠ 0)
    (hroom : ((sLen + n) + (sLen + n) / 4 + 192) * bytes ≤ 281474976710656)
    (kk : ∀ b' cap', sLen + n ≤ cap' → K (putO e dst (.slice (some ⟨b', 0, none⟩) (sLen + n) cap')) (⟨⟨b', some el⟩, 0, old ++ (List.replicate n zl).flatten, cap' * zl.length⟩ :: L)) : T1 C ⟨dst, .call ⟨.builtin .append, (List.toArray [x, y]), (List.toArray [t, yt])⟩, ty, pos, after, guard⟩ K e L := by
  intro a w K' Q' hr hs hK
  unfold Oper.wp
  rw [hr.eval]
  obtain ⟨iel, hiel, hibytes⟩ := Option.map_eq_some_iff.1 hb
  have hik : iel.size = zl.length := by have := hk; unfold SizeIs at this; rw [hiel] at this; simpa using this
  have hiz : iel.zero = some (.agg zl.toArray) := by have := hz; unfold ZeroIs at this; rw [hiel] at this; simpa using this
  have hexec : execOp (ev C.n e) ⟨dst, .call ⟨.builtin .append, (List.toArray [x, y]), (List.toArray [t, yt])⟩, ty, pos, after, guard⟩ = (do pure (Next.value (← Builtin.append_ #[t, yt] ty #[.slice (some ⟨b, o, none⟩) sLen sCap, .int .i64 (n : Int)])) : Sem Next) := by
    show Go.builtin .append #[t, yt] ty ((List.toArray [x, y]).map fun | .const _ => true | _ => false) ((List.toArray [x, y]).map (ev C.n e)) = _
    rw [show (List.toArray [x, y]).map (ev C.n e) = #[.slice (some ⟨b, o, none⟩) sLen sCap, .int .i64 (n : Int)] from by rw [List.map_toArray]; simp [hx, hyv]]
    rfl
  rw [hexec]
  have hnb : sLen + n ≤ 281474976710656 := by
    have : (sLen + n) * 1 ≤ ((sLen + n) + (sLen + n) / 4 + 192) * bytes := Nat.mul_le_mul (by omega) hbpos
    omega
  have hnbytes : n * iel.bytes ≤ 281474976710656 := by
    rw [hibytes]
    exact Nat.le_trans (Nat.mul_le_mul_right _ (by omega)) hroom
  have hs1 : St C.w0 C.M L w.drew := hs.drew _ (Nat.le_succ _)
  have hfit := growslice_fits_wide (need := sLen + n) (old := sCap) (bytes := iel.bytes) (by omega) (by rw [hibytes]; exact hroom)
  have hrun := run_appendZK (ty := ty) (base := some ⟨b, o, none⟩) (old := old) hT hY hiel hik hk0 hiz hnbytes (by omega) (firstCells_rd hrd hl hs1) hlt h0 (by omega) hfit
  have hge : sLen + n ≤ grownCap w (sLen + n) sCap el := by unfold grownCap Question.cut; exact Nat.le_add_right _ _
  generalize grownCap w (sLen + n) sCap el = nc at hge hrun
  rw [run_value hrun]
  have hfl : ∀ (m : Nat), (List.replicate m zl).flatten.length = m * zl.length := fun m => by simp
  have hol : (old ++ (List.replicate n zl).flatten).length = (sLen + n) * zl.length := by rw [List.length_append, hl, hfl, Nat.add_mul]
  refine hK _ _ _ _ (hr.put _ _) ?_ (kk _ nc hge)
  exact hs1.push (B := ⟨⟨w.heap.size, some el⟩, 0, old ++ (List.replicate n zl).flatten, nc * zl.length⟩) (c := (old ++ (List.replicate n zl).flatten).toArray ++ Builtin.zeroCells zl.toArray (nc - (sLen + n))) (E := el) (lo := 0) (hi := 0) (k := w.drawn + 1) rfl
    (by show 0 + (old ++ (List.replicate n zl).flatten).length ≤ nc * zl.length; rw [hol, Nat.zero_add]; exact Nat.mul_le_mul_right _ hge)
    (by
      show ((old ++ (List.replicate n zl).flatten).toArray ++ _).size = nc * zl.length
      rw [Array.size_append, List.size_toArray, hol, zero_cells hk0, List.size_toArray, hfl, ← Nat.add_mul]; congr 1; omega)
    (by
      intro i hi
      show ((old ++ (List.replicate n zl).flatten).toArray ++ _)[0 + i]? = (old ++ (List.replicate n zl).flatten)[i]?
      have hi' : i < (old ++ (List.replicate n zl).flatten).length := hi
      rw [Nat.zero_add, Array.getElem?_append, if_pos (by simpa using hi')]
      simp)
    (.inl rfl) (.inr ⟨rfl, rfl⟩)

theorem not_frozen {w : World} {b off size : Nat} {E : TypeId} {cells : List Value} (h : Blk.In ⟨⟨b, some E⟩, off, cells, size⟩ w) (o : Nat) : w.frozen? ⟨b, o, none⟩ = false := by
  obtain ⟨c, E', lo, hi, hh, _, _, _, ht⟩ := h.here
  rcases ht with ht | ⟨_, rfl⟩
  · cases ht
  · have hh' : w.heap[b]? = some (.cells c E' (lo, lo)) := hh
    simp only [World.frozen?, hh', Bool.and_eq_false_iff, decide_eq_false_iff_not]
    omega
/-- Two slices that lie in two blocks do not overlap. -/
theorem V1.overlaps {f : FuncId} {fn : Func} {x y : Operand} {ts : Array TypeId} {t r el Ea : TypeId} {kz ba oa la ca bb ob lb cb offa sza offb szb : Nat} {tb : Option TypeId} {csa csb : List Value} (hf : C.P.funcs[f]? = some fn) (h1 : (fn.name == "runtime.NumGoroutine") = false) (h2 : fn.body.isNone = true) (h3 : Extern.findNext fn = none) (h4 : Extern.find fn = some (Extern.SlicesOverlaps.overlaps #[t, t] #[r])) (hT : C.P.underlying t = some (.slice el)) (hk : SizeIs C.P el kz)
    (hx : ev C.n e x = .slice (some ⟨ba, oa, none⟩) la ca) (hy : ev C.n e y = .slice (some ⟨bb, ob, none⟩) lb cb) (ha : Find L ⟨⟨ba, some Ea⟩, offa, csa, sza⟩) (hb : Find L ⟨⟨bb, tb⟩, offb, csb, szb⟩) (hne : ba ≠ bb) (hs0 : 0 < szb) :
    V1 C ⟨dst, .call ⟨.value (.func f), #[x, y], ts⟩, ty, pos, after, guard⟩ e L (.bool false) := fun w hs => by
  show (do let d ← Deferred.ofValue (.func (.func f) #[] #[]) ((List.toArray [x, y]).map (ev C.n e)); Go.invoke d.target d.args : Sem Next).run C.P w = _
  rw [show (List.toArray [x, y]).map (ev C.n e) = #[.slice (some ⟨ba, oa, none⟩) la ca, .slice (some ⟨bb, ob, none⟩) lb cb] from by rw [List.map_toArray]; simp [hx, hy]]
  have ia := hs.inw _ ha.mem
  have ib := hs.inw _ hb.mem
  obtain ⟨Ta, sa, _⟩ := ia.shape
  obtain ⟨Tb, sb, _⟩ := ib.shape
  show (callFunc f ((#[] ++ #[.slice (some ⟨ba, oa, none⟩) la ca, .slice (some ⟨bb, ob, none⟩) lb cb]) ++ #[])).run C.P w = _
  rw [show ((#[] ++ #[.slice (some ⟨ba, oa, none⟩) la ca, .slice (some ⟨bb, ob, none⟩) lb cb]) ++ #[] : Array Value) = #[.slice (some ⟨ba, oa, none⟩) la ca, .slice (some ⟨bb, ob, none⟩) lb cb] from by simp, run_callFunc_extern hf h1 h2 h3 h4,
    Go.Lib.run_overlaps_apart w t r el hT kz (fun w => run_sizeOf hk w) ⟨ba, oa, none⟩ ⟨bb, ob, none⟩ la ca lb cb hne Ta Tb sza szb sa sb (by omega) (not_frozen ia _) (not_frozen ia _)]; rfl
theorem V1.eqSlNil {t yt el : TypeId} {x y : Operand} {a : Option Addr} {n c : Nat} (hT : C.P.underlying t = some (.slice el)) (hx : ev C.n e x = .slice a n c) (hy : ev C.n e y = .slice none 0 0) : V1 C ⟨dst, .binOp .eql t x y yt, ty, pos, after, guard⟩ e L (.bool a.isNone) :=
  V1.run (s := do eqGuard .eql t x y (ev C.n e x) (ev C.n e y); binOp .eql t (ev C.n e x) (ev C.n e y)) rfl (fun w _ => by
    rw [hx, hy]
    show (do pure (Value.bool (← Op.equal t (.slice a n c) (.slice none 0 0))) : Sem Value).run C.P w = _
    have : (Op.equal t (.slice a n c) (.slice none 0 0)).run C.P w = .ok a.isNone w := by
      unfold Op.equal Op.maxDepth Op.equalIn
      rw [run_bind (run_underlying hT w)]
      cases a <;> rfl
    rw [run_bind this]; rfl)
/-- An empty slice, not nil. -/
theorem T1.buildNone {t el : TypeId} {k : Nat} {z : Value} (hT : C.P.underlying t = some (.slice el)) (hk : SizeIs C.P el k) (hz : ZeroIs C.P el z)
    (kk : ∀ b, K (putO e dst (.slice (some ⟨b, 0, none⟩) 0 0)) (⟨⟨b, some el⟩, 0, [], 0⟩ :: L)) : T1 C ⟨dst, .buildSlice t 0 (List.toArray []), ty, pos, after, guard⟩ K e L := by
  refine T1.buildSliceG (tg := some el) (vs := []) (ps := []) hT hk hz (by omega) rfl rfl (by simp) (.inr rfl) (fun b => ?_)
  have := kk b
  simpa using this
/-- Two blocks of the list are two. -/
theorem ne_of_find {L : List Blk} {w0 w : World} {M : List Nat} {X Y : Blk} (h : St w0 M (X :: L) w) (hf : Find L Y) : X.id ≠ Y.id := by
  have hd := h.distinct
  rw [List.map_cons, List.nodup_cons] at hd
  exact fun he => hd.1 (he ▸ List.mem_map_of_mem hf.mem)
/-- What is known of the worlds may be used. -/
theorem T.have {c : Code} {Q : Post} {p : Prop} (hp : ∀ w, St C.w0 C.M L w → p) (h : p → T C c Q e L) : T C c Q e L := fun a w hr hs => h (hp w hs) a w hr hs
theorem TL.have {ops : Array Oper} {Q : Post} {l : List Oper} {p : Prop} (hp : ∀ w, St C.w0 C.M L w → p) (h : p → TL C ops Q l e L) : TL C ops Q l e L := fun a w hr hs => h (hp w hs) a w hr hs
end
end Go.Proofs.YtlpkcbkflfbclaaDoor.S
