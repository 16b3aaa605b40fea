/- Slices of one's own taken from their front; what is read wherever some blocks lie. Holds for every program. Append of made noughts. Holds for every program. Slices of slices that came in: an inner one that is empty may lie anywhere. Holds for every program. Laws for what strings.Builder does: blocks that bear their type, pointers turned and turned back, bytes handed on as a string. Holds for every program. Loops gone through round by round. Holds for every program. Contracts that read some blocks and write others, told in terms of the world in which the law began. Holds for every program. Regions that draw their order, with something kept in mind until one operation (number k, which waits for the readers) has come: behind it nothing is asked. Holds for every program. Slices of elements of several cells put together. Holds for every program. Slices of one's own cut, copied onto themselves, grown by noughts; whether two slices overlap. Holds for every program. Regions that draw their order, gone through once: each operation has a fact of its own, which stays true as blocks come. Holds for every program. -/
import Derived.Test.YtlpkcbkflfbclaaGreatDoorOps6
import Derived.Lib.Builder
import Derived.Lib.UnsafeStr
import Derived.Lib.MakeNoZero
import Derived.Laws.Externs
import Derived.LoopN
import Derived.Lib.Overlaps
namespace Go.Proofs.YtlpkcbkflfbclaaGreatDoor.S
open Go.RowKit

theorem Find.of_mem {B : Blk} : ∀ {L : List Blk}, B ∈ L → Find L B
  | _ :: _, h => by
    rcases List.mem_cons.1 h with rfl | h
    · exact .here
    · exact .there (Find.of_mem h)
section
variable {C : Ctx} {K : Env → List Blk → Prop} {e : Env} {L : List Blk} {dst : Option Tmp} {ty : TypeId} {pos : String} {after : Array Edge} {guard : Option (Nat × Bool)}
end

theorem Src.inv {C : Ctx} {L : List Blk} {k m : Nat} {v : Value} {vs : List Value} (h : Src C L k v m vs) : ∀ a n c, v = .slice a n c → m = 0 ∨ ∃ b o, a = some ⟨b, o, none⟩ ∧ RdN C L ⟨b, o, none⟩ vs := by
  cases h with
  | nil => intro _ _ _ _; exact .inl rfl
  | odd => intro _ _ _ _; exact .inl rfl
  | sl hr _ => intro a n c hv; cases hv; exact .inr ⟨_, _, rfl, hr⟩
  | str _ => intro a n c hv; cases hv
section
variable {C : Ctx} {K : Env → List Blk → Prop} {e : Env} {L : List Blk} {dst : Option Tmp} {ty : TypeId} {pos : String} {after : Array Edge} {guard : Option (Nat × Bool)}
theorem run_eqNil {P : Program} {t el : TypeId} (hT : P.underlying t = some (.pointer el)) (a : Addr) (w : World) : (Op.equal t (.pointer (some a)) (.pointer none)).run P w = .ok false w := by
  unfold Op.equal Op.maxDepth Op.equalIn
  rw [run_bind (run_underlying hT w)]; rfl
/-- A pointer that leads somewhere is not nil. -/
theorem V1.eqNil {t yt el : TypeId} {x y : Operand} {a : Addr} (hT : C.P.underlying t = some (.pointer el)) (hx : ev C.n e x = .pointer (some a)) (hy : ev C.n e y = .pointer none) : V1 C ⟨dst, .binOp .eql t x y yt, ty, pos, after, guard⟩ e L (.bool false) :=
  V1.run (s := do eqGuard .eql t x y (ev C.n e x) (ev C.n e y); binOp .eql t (ev C.n e x) (ev C.n e y)) rfl (fun w _ => by
    rw [hx, hy]
    show (do pure (Value.bool (← Op.equal t (.pointer (some a)) (.pointer none))) : Sem Value).run C.P w = _
    rw [run_bind (run_eqNil hT a w)]; rfl)
end
end Go.Proofs.YtlpkcbkflfbclaaGreatDoor.S

namespace Go.Proofs.YtlpkcbkflfbclaaGreatDoor.S
open Go.RowKit

section rules
variable {C : Ctx} {K : Env → List Blk → Prop} {e : Env} {L : List Blk}
variable {dst : Option Tmp} {ty : TypeId} {pos : String} {after : Array Edge} {guard : Option (Nat × Bool)}

theorem zero_cells1 {z : Value} (n : Nat) : Builtin.zeroCells #[z] n = (List.replicate n z).toArray := by
  unfold Builtin.zeroCells
  apply Array.ext'
  apply List.ext_getElem?
  intro i
  simp only [List.size_toArray, List.length_cons, List.length_nil, Nat.zero_add, Nat.mul_one, Nat.mod_one, Array.toList_map, Array.toList_range]
  rcases Nat.lt_or_ge i n with h | h
  · rw [List.getElem?_map, List.getElem?_replicate, List.getElem?_range h]; simp [h]
  · rw [List.getElem?_eq_none (by simpa using h), List.getElem?_eq_none (by simpa using h)]

theorem wrap64n {n : Nat} (h : n ≤ 281474976710656) : IntKind.i64.wrap (n : Int) = (n : Int) := wrap_i64 _ (by omega) (by omega)

theorem made_fits {n k : Nat} (hn : n * k ≤ 281474976710656) : ¬ (281474976710656 < (n : Int) * (k : Int)) := by
  obtain ⟨q, hq⟩ : ∃ q, q = n * k := ⟨_, rfl⟩
  rw [← Int.natCast_mul, ← hq]; omega

theorem run_appendZ_room {P : Program} {t yt el : TypeId} {i : TypeInfo} {z : Value} (hT : P.underlying t = some (.slice el)) (hY : P.underlying yt = some (.int .i64)) (hi : P.info? el = some i) (hk : i.size = 1) (hz : i.zero = some z) (hzc : z.cells = #[z]) {b off sLen sCap n : Nat} {w w' : World}
    (hn : n * i.bytes ≤ 281474976710656) (hn2 : n ≤ 281474976710656) (hle : sLen + n ≤ sCap) (h3 : (storeCells ⟨b, off + sLen, none⟩ (List.replicate n z) 0).run P w = .ok () w') :
    (Builtin.append_ #[t, yt] ty #[.slice (some ⟨b, off, none⟩) sLen sCap, .int .i64 n]).run P w = .ok (.slice (some ⟨b, off, none⟩) (sLen + n) sCap) w' := by
  have h1 : ¬ ((n : Int) < 0) := by omega
  have h2 := made_fits hn
  have hw := wrap64n hn2
  by_cases h0 : n = 0
  · subst h0
    simp [Builtin.append_, Go.run_underlying hT, Go.run_underlying hY, sizeOf, typeInfo, hi, asInt, asIntOf, hw, hle, hk, addr_add] at hle h3 ⊢
    simp_all
  · simp [Builtin.append_, Go.run_underlying hT, Go.run_underlying hY, sizeOf, typeInfo, zeroValue, hi, hz, hzc, asInt, asIntOf, hw, h1, h2, hle, hk, h0, addr_add, zero_cells1, h3]

theorem run_appendZ_nil {P : Program} {t yt el : TypeId} {i : TypeInfo} (hT : P.underlying t = some (.slice el)) (hY : P.underlying yt = some (.int .i64)) (hi : P.info? el = some i) {w : World} :
    (Builtin.append_ #[t, yt] ty #[.slice none 0 0, .int .i64 0]).run P w = .ok (.slice none 0 0) w := by
  have hw := wrap64n (n := 0) (by decide)
  simp [Builtin.append_, Go.run_underlying hT, Go.run_underlying hY, sizeOf, typeInfo, hi, asInt, asIntOf, show IntKind.i64.wrap 0 = 0 from hw]

theorem run_appendZ_grow {P : Program} {t yt el : TypeId} {i : TypeInfo} {z : Value} (hT : P.underlying t = some (.slice el)) (hY : P.underlying yt = some (.int .i64)) (hi : P.info? el = some i) (hk : i.size = 1) (hz : i.zero = some z) (hzc : z.cells = #[z]) {base : Option Addr} {sLen sCap n : Nat} {old : List Value} {w : World}
    (hn : n * i.bytes ≤ 281474976710656) (hn2 : n ≤ 281474976710656) (h3 : (Builtin.firstCells 1 sLen (.slice base sLen sCap)).run P w.drew = .ok old.toArray w.drew) (hlt : sCap < sLen + n)
    (h0 : n ≠ 0) (h63 : ((sLen + n : Nat) : Int) ≤ 9223372036854775807) (hfit : Builtin.nextslicecap (sLen + n) sCap * i.bytes ≤ 281474976710656) :
    (Builtin.append_ #[t, yt] ty #[.slice base sLen sCap, .int .i64 n]).run P w = .ok (.slice (some ⟨w.heap.size, 0, none⟩) (sLen + n) (grownCap w (sLen + n) sCap el))
      (w.drew.alloc (.cells ((old ++ List.replicate n z).toArray ++ Builtin.zeroCells z.cells (grownCap w (sLen + n) sCap el - (sLen + n))) el)) := by
  have h1 : ¬ ((n : Int) < 0) := by omega
  have h2 := made_fits hn
  have hw := wrap64n hn2
  have hn' : ¬ (sLen + n ≤ sCap) := by omega
  have h63' : ¬ (9223372036854775807 < ((sLen : Int) + (n : Int))) := by omega
  have h48' : ¬ (281474976710656 < Builtin.nextslicecap (sLen + n) sCap * i.bytes) := by omega
  simp [Builtin.append_, Go.run_underlying hT, Go.run_underlying hY, sizeOf, typeInfo, zeroValue, hi, hz, hzc, asInt, asIntOf, hw, h1, h2, hk, h0, hn', h63', h48', Question.forced, h3, newRow, grownCap, zero_cells1]
  congr 2
  apply Array.ext'
  simp only [Array.toList_append, Array.toList_replicate, List.append_assoc, List.replicate_append_replicate]

/-- append of made noughts: the slice is the call's own. -/
theorem T1.appendZ {x y : Operand} {t yt el : TypeId} {n bytes : Nat} {s : Value} {xs : List Value} {Ls G : List Blk} {z : Value} (hT : C.P.underlying t = some (.slice el)) (hY : C.P.underlying yt = some (.int .i64))
    (hk : SizeIs C.P el 1) (hb : BytesIs C.P el bytes) (hz : ZeroIs C.P el z) (hzc : z.cells = #[z]) (hz1 : one z = true) (hbpos : 0 < bytes) (hx : ev C.n e x = s) (hyv : ev C.n e y = .int .i64 (n : Int)) (hsl : Sl s xs 1 Ls)
    (N : Nat) (hN : xs.length + n ≤ N) (hroom : (N + N / 4 + 192) * bytes ≤ 281474976710656) (hpk : PickS L Ls G)
    (kk : ∀ s' Ls', Sl s' (xs ++ List.replicate n z) 1 Ls' → K (putO e dst s') (Ls' ++ G)) : T1 C ⟨dst, .call ⟨.builtin .append, (List.toArray [x, y]), (List.toArray [t, yt])⟩, ty, pos, after, guard⟩ K e L := by
  intro a w K' Q' hr hs hK
  unfold Oper.wp
  rw [hr.eval]
  replace hs : St C.w0 C.M ([] ++ (Ls ++ G)) w := hs.perm hpk.perm.symm
  have hsubs : ∀ Y, Sub ([] ++ (Ls ++ G)) Ls ([] ++ (Y ++ G)) Y := fun Y => .far .here
  obtain ⟨iel, hiel, hibytes⟩ := Option.map_eq_some_iff.1 hb
  have hik : iel.size = 1 := by have := hk; unfold SizeIs at this; rw [hiel] at this; simpa using this
  have hiz : iel.zero = some z := by have := hz; unfold ZeroIs at this; rw [hiel] at this; simpa using this
  have hexec : execOp (ev C.n e) ⟨dst, .call ⟨.builtin .append, (List.toArray [x, y]), (List.toArray [t, yt])⟩, ty, pos, after, guard⟩ = (do pure (Next.value (← Builtin.append_ #[t, yt] ty #[s, .int .i64 (n : Int)])) : Sem Next) := by
    show Go.builtin .append #[t, yt] ty ((List.toArray [x, y]).map fun | .const _ => true | _ => false) ((List.toArray [x, y]).map (ev C.n e)) = _
    rw [show (List.toArray [x, y]).map (ev C.n e) = #[s, .int .i64 (n : Int)] from by rw [List.map_toArray]; simp [hx, hyv]]
    rfl
  rw [hexec]
  obtain ⟨base, sLen, sCap, rfl, hxl, hself⟩ := hsl.form (C := C) Nat.one_pos (F := []) (G := G)
  rw [Nat.mul_one] at hxl
  have hneed : sLen + n ≤ N := by omega
  have hnb : N ≤ 281474976710656 := by
    have : N * 1 ≤ (N + N / 4 + 192) * bytes := Nat.mul_le_mul (by omega) hbpos
    omega
  have hnbytes : n * iel.bytes ≤ 281474976710656 := by
    rw [hibytes]
    exact Nat.le_trans (Nat.mul_le_mul_right _ (by omega)) hroom
  have hnl : (List.replicate n z).length = n := List.length_replicate
  have hrunA : ∃ w' s', (Builtin.append_ #[t, yt] ty #[.slice base sLen sCap, .int .i64 (n : Int)]).run C.P w = .ok s' w' ∧ ∃ Ls', St C.w0 C.M ([] ++ (Ls' ++ G)) w' ∧ Sl s' (xs ++ List.replicate n z) 1 Ls' := by
    by_cases hle : sLen + n ≤ sCap
    · rcases hsl with ⟨heq, rfl, rfl⟩ | ⟨b, off, len, cap, size, heq, h1, h2, h3, rfl⟩
      · cases heq
        have hn0 : n = 0 := by omega
        subst hn0
        exact ⟨w, _, run_appendZ_nil hT hY hiel, [], hs, .inl ⟨rfl, rfl, rfl⟩⟩
      · cases heq
        rw [Nat.mul_one] at h1 h3
        have hin := (hs.piece (hsubs [])).2 ⟨b, off, xs, size⟩ (by simp)
        obtain ⟨c, E, lo, hi, hh, hsz, _, hf⟩ := hin.here
        have hsz' : c.size = size := hsz
        have hst := run_storeCells (P := C.P) (List.replicate n z) (off + sLen) 0 w c E lo hi hh (by rw [hnl, hsz']; omega) (by intro q hq; have hf' : lo = hi ∨ size ≤ lo := hf.1; omega) (fun u hu => by rw [List.eq_of_mem_replicate hu]; exact hz1)
        refine ⟨_, _, run_appendZ_room hT hY hiel hik hiz hzc hnbytes (by omega) hle hst, [⟨b, off, xs ++ List.replicate n z, size⟩], ?_, Sl.mk (by simp [h1]) (by omega) (by omega)⟩
        obtain ⟨f1, f2, f3, f4, f5⟩ := setCellsAt_fields b (List.replicate n z) (off + sLen + 0) w
        refine hs.turn (hsubs _) rfl f1 f2 f3 f4 f5 ?_
        have := In_extend hin (vs := List.replicate n z) (by show off + xs.length + (List.replicate n z).length ≤ size; rw [h1, hnl]; omega)
        simpa [h1] using this
    · have hle2 : sLen ≤ sCap := by
        rcases hsl with ⟨heq, _, _⟩ | ⟨b, off, len, cap, size, heq, h1, h2, h3, rfl⟩ <;> cases heq
        · exact Nat.le_refl _
        · exact h2
      have hs1 : St C.w0 C.M ([] ++ (Ls ++ G)) w.drew := hs.drew _ (Nat.le_succ _)
      have hfit := growslice_fits_wide (need := sLen + n) (old := sCap) (bytes := iel.bytes) (by omega) (by
        rw [hibytes]
        exact Nat.le_trans (Nat.mul_le_mul_right _ (by omega)) hroom)
      have hrun := run_appendZ_grow (ty := ty) (base := base) (old := xs) hT hY hiel hik hiz hzc hnbytes (by omega) (run_firstCells hself hs1) (by omega) (by omega) (by omega) hfit
      have hge : sLen + n ≤ grownCap w (sLen + n) sCap el := by unfold grownCap Question.cut; exact Nat.le_add_right _ _
      generalize grownCap w (sLen + n) sCap el = nc at hge hrun
      have hzcs : (Builtin.zeroCells z.cells (nc - (sLen + n))).size = nc - (sLen + n) := by rw [hzc, zero_cells1]; simp
      refine ⟨_, _, hrun, [⟨w.heap.size, 0, xs ++ List.replicate n z, nc⟩], ?_, Sl.mk (by simp [hxl]) hge (by omega)⟩
      have hbase : St C.w0 C.M G w.drew := hs1.sub (List.sublist_append_right _ _)
      exact hbase.push (B := ⟨w.heap.size, 0, xs ++ List.replicate n z, nc⟩) (c := (xs ++ List.replicate n z).toArray ++ Builtin.zeroCells z.cells (nc - (sLen + n))) (E := el) (lo := 0) (hi := 0) (k := w.drawn + 1) rfl
        (by show 0 + (xs ++ List.replicate n z).length ≤ nc; simp only [List.length_append, hxl, hnl, Nat.zero_add]; exact hge)
        (by
          show ((xs ++ List.replicate n z).toArray ++ _).size = nc
          simp only [Array.size_append, List.size_toArray, List.length_append, hxl, hnl, hzcs]; omega)
        (by
          intro i hi
          show ((xs ++ List.replicate n z).toArray ++ _)[0 + i]? = (xs ++ List.replicate n z)[i]?
          have hi' : i < (xs ++ List.replicate n z).length := hi
          rw [Nat.zero_add, Array.getElem?_append, if_pos (by simpa using hi')]
          simp)
        (by omega)
  obtain ⟨w', s', hrun, Ls', hst', hsl'⟩ := hrunA
  rw [run_value hrun]
  exact hK _ _ _ _ (hr.put _ _) hst' (kk s' Ls' hsl')
end rules
end Go.Proofs.YtlpkcbkflfbclaaGreatDoor.S

namespace Go.Proofs.YtlpkcbkflfbclaaGreatDoor.S
open Go.RowKit

section
variable {C : Ctx} {e : Env} {L : List Blk} {dst : Option Tmp} {ty : TypeId} {pos : String} {after : Array Edge} {guard : Option (Nat × Bool)}
end
end Go.Proofs.YtlpkcbkflfbclaaGreatDoor.S

namespace Go.Proofs.YtlpkcbkflfbclaaGreatDoor.S
open Go.RowKit

section
variable {C : Ctx} {K : Env → List Blk → Prop} {e : Env} {L : List Blk}
variable {dst : Option Tmp} {ty : TypeId} {pos : String} {after : Array Edge} {guard : Option (Nat × Bool)}

/-- A new variable of many cells; its type is known. -/
theorem T1.allocT {elem : TypeId} {zl : List Value} (n : Nat) (hz : ZeroIs C.P elem (.agg zl.toArray)) (hn : zl.length = n) (k : ∀ b, K (putO e dst (.pointer (some ⟨b, 0, none⟩))) (⟨⟨b, some elem⟩, 0, zl, n⟩ :: L)) : T1 C ⟨dst, .alloc elem, ty, pos, after, guard⟩ K e L := by
  intro a w K' Q' hr hs hK
  unfold Oper.wp
  rw [hr.eval]
  have hrun : (execOp (ev C.n e) ⟨dst, .alloc elem, ty, pos, after, guard⟩).run C.P w = .ok (.value (.pointer (some ⟨w.heap.size, 0, none⟩))) { w with heap := w.heap.push (.cells zl.toArray elem) } := by
    show (do pure (Next.value (← Instr.alloc elem true (.tuple #[]))) : Sem Next).run C.P w = _
    refine run_value ?_
    unfold Instr.alloc
    rw [run_bind (run_zeroValue hz w)]
    rfl
  rw [hrun]
  subst hn
  exact hK _ _ _ _ (hr.put _ _) (hs.push (B := ⟨⟨w.heap.size, some elem⟩, 0, zl, zl.length⟩) (c := zl.toArray) (E := elem) (lo := 0) (hi := 0) (k := w.drawn) rfl (by show 0 + zl.length ≤ zl.length; omega) (by simp) (fun i hi => by show zl.toArray[0 + i]? = zl[i]?; simp) (.inl rfl) (.inr ⟨rfl, rfl⟩)) (k _)

theorem Blk.In.shape {b off size : Nat} {tg : Option TypeId} {cells : List Value} {w : World} (h : Blk.In ⟨⟨b, tg⟩, off, cells, size⟩ w) : ∃ E, w.shape? b = some (E, size) ∧ (tg = Option.none ∨ tg = some E) := by
  obtain ⟨c, E, lo, hi, hh, hsz, _, _, ht⟩ := h.here
  refine ⟨E, ?_, ht.imp (fun h => h) And.left⟩
  have hh' : w.heap[b]? = some (.cells c E (lo, hi)) := hh
  have hsz' : c.size = size := hsz
  simp only [World.shape?, hh', hsz']

/-- A pointer as one of no type. -/
theorem V1.toUnsafe {s d t : TypeId} {x : Operand} {b o off size k : Nat} {tg : Option TypeId} {cells : List Value} (hs : C.P.underlying s = some (.pointer t)) (hd : C.P.underlying d = some .unsafePointer) (hk : SizeIs C.P t k) (hk0 : k ≠ 0) (hx : ev C.n e x = .pointer (some ⟨b, o, none⟩)) (hf : Find L ⟨⟨b, tg⟩, off, cells, size⟩) (ho : o < size) :
    V1 C ⟨dst, .convert s d x, ty, pos, after, guard⟩ e L (.pointer (some ⟨b, o, none⟩)) :=
  V1.run (s := convert s d (ev C.n e x)) rfl (fun w hst => by
    rw [hx]
    obtain ⟨j, hj, hjs⟩ := Option.map_eq_some_iff.1 hk
    obtain ⟨E, hsh, _⟩ := (hst.inw _ hf.mem).shape
    exact Lib.run_to_unsafe w ⟨b, o, none⟩ hs hd hj (by rw [hjs]; exact hk0) hsh ho)
/-- .. and back: the block bears its type. -/
theorem V1.ofUnsafe {s d u E : TypeId} {x : Operand} {b o off size k : Nat} {cells : List Value} (hs : C.P.underlying s = some .unsafePointer) (hd : C.P.underlying d = some (.pointer u)) (hk : SizeIs C.P u k) (hx : ev C.n e x = .pointer (some ⟨b, o, none⟩)) (hf : Find L ⟨⟨b, some E⟩, off, cells, size⟩) (hl : liesAt C.P C.P.depth E (size / C.P.cellsOf E) o u 1 = true) :
    V1 C ⟨dst, .convert s d x, ty, pos, after, guard⟩ e L (.pointer (some ⟨b, o, none⟩)) :=
  V1.run (s := convert s d (ev C.n e x)) rfl (fun w hst => by
    rw [hx]
    obtain ⟨j, hj, _⟩ := Option.map_eq_some_iff.1 hk
    obtain ⟨E', hsh, ht⟩ := (hst.inw _ hf.mem).shape
    rcases ht with ht | ht
    · cases ht
    · obtain rfl := Option.some.inj ht
      exact Lib.run_from_unsafe w ⟨b, o, none⟩ hs hd hj hsh hl)
theorem V1.neSame {t yt te : TypeId} {x y : Operand} {a : Addr} {k : Nat} (hT : C.P.underlying t = some (.pointer te)) (hk : SizeIs C.P te k) (hx : ev C.n e x = .pointer (some a)) (hy : ev C.n e y = .pointer (some a)) : V1 C ⟨dst, .binOp .neq t x y yt, ty, pos, after, guard⟩ e L (.bool false) :=
  V1.run (s := do eqGuard .neq t x y (ev C.n e x) (ev C.n e y); binOp .neq t (ev C.n e x) (ev C.n e y)) rfl (fun w _ => by
    rw [hx, hy]
    obtain ⟨j, hj, _⟩ := Option.map_eq_some_iff.1 hk
    show (binOp .neq t (.pointer (some a)) (.pointer (some a))).run C.P w = _
    exact Lib.run_neq_ptr_same w a hT hj)
theorem V1.eqNil0 {t yt el : TypeId} {x y : Operand} (hT : C.P.underlying t = some (.pointer el)) (hx : ev C.n e x = .pointer none) (hy : ev C.n e y = .pointer none) : V1 C ⟨dst, .binOp .eql t x y yt, ty, pos, after, guard⟩ e L (.bool true) :=
  V1.run (s := do eqGuard .eql t x y (ev C.n e x) (ev C.n e y); binOp .eql t (ev C.n e x) (ev C.n e y)) rfl (fun w _ => by
    rw [hx, hy]
    show (do pure (Value.bool (← Op.equal t (.pointer none) (.pointer none))) : Sem Value).run C.P w = _
    have : (Op.equal t (.pointer none) (.pointer none)).run C.P w = .ok true w := by
      unfold Op.equal Op.maxDepth Op.equalIn
      rw [run_bind (run_underlying hT w)]; rfl
    rw [run_bind this]; rfl)
/-- A function of the library that hands back what it got. -/
theorem V1.ext {f : FuncId} {fn : Func} {x : Operand} {g : Array Value → Sem Value} {ts : Array TypeId} {v : Value} (hf : C.P.funcs[f]? = some fn) (h1 : (fn.name == "runtime.NumGoroutine") = false) (h2 : fn.body.isNone = true) (h3 : Extern.findNext fn = none) (h4 : Extern.find fn = some g) (hx : ev C.n e x = v) (hg : ∀ w, (g #[v]).run C.P w = .ok v w) :
    V1 C ⟨dst, .call ⟨.value (.func f), #[x], ts⟩, ty, pos, after, guard⟩ e L v := fun w _ => by
  show (do let d ← Deferred.ofValue (.func (.func f) #[] #[]) ((List.toArray [x]).map (ev C.n e)); Go.invoke d.target d.args : Sem Next).run C.P w = _
  rw [show (List.toArray [x]).map (ev C.n e) = #[v] from by rw [List.map_toArray]; simp [hx]]
  show (callFunc f ((#[] ++ #[v]) ++ #[])).run C.P w = _
  rw [show ((#[] ++ #[v]) ++ #[] : Array Value) = #[v] from by simp, run_callFunc_extern hf h1 h2 h3 h4, hg w]; rfl

theorem liesAt_row {P : Program} {E : TypeId} (hc : P.cellsOf E = 1) (count o n : Nat) (hn : o + n ≤ count) : liesAt P P.depth E count o E n = true := by
  have hd : P.depth = (2 * (P.types.size + Made.depth) + 1) + 1 := rfl
  rw [hd]
  simp only [liesAt, Bool.or_eq_true]
  left
  rw [hd]
  simp [rowAt, hc, sameLayout, Nat.mod_one]
  omega
theorem run_unsafeStr {P : Program} {w : World} (pt it ty E : TypeId) (hp : P.underlying pt = some (.pointer E)) (hc : P.cellsOf E = 1) (g o cells : Nat) (hsh : w.shape? g = some (E, cells)) (l : List UInt8) (h0 : l ≠ []) (hn : o + l.length ≤ cells) (h63 : l.length ≤ 9223372036854775807)
    (hcell : ∀ j x, l[j]? = some x → w.cell? ((⟨g, o, none⟩ : Addr).add j) = some (.int .u8 x.toNat)) :
    (Builtin.unsafeString_ #[pt, it] ty #[.pointer (some ⟨g, o, none⟩), .int .i64 l.length]).run P w = .ok (.string ⟨l.toArray⟩) (w.freeze ⟨g, o, none⟩ l.length) := by
  have hl : l.length ≠ 0 := by simpa using h0
  have hlb := Lib.run_loadBytes (P := P) w l ⟨g, o, none⟩ .empty hcell
  have hlies := liesAt_row (P := P) hc (cells / P.cellsOf E) o l.length (by rw [hc]; simpa using hn)
  have h63' : ¬ (9223372036854775807 : Int) < (l.length : Int) := by omega
  have hdef : Builtin.unsafeString_ #[pt, it] ty #[.pointer (some ⟨g, o, none⟩), .int .i64 l.length] =
      (do
        let n ← asInt (.int .i64 l.length)
        if n < 0 then runtimePanic (.error "unsafe.String: len out of range")
        if n > IntKind.i64.max then unsupported (.unsafePointer "String: a length above the largest int")
        if n = 0 then pure (.string .empty)
        else if ← variablesAt ⟨g, o, none⟩ (← elemOf pt) n.toNat then do
          let s ← loadBytes ⟨g, o, none⟩ .empty n.toNat
          freeze ⟨g, o, none⟩ n.toNat
          pure (.string s)
        else unsupported (.unsafePointer "String: not so many bytes at ptr")) := rfl
  rw [hdef]
  have hmax : IntKind.i64.max = 9223372036854775807 := rfl
  have hneg : ¬ (l.length : Int) < 0 := by omega
  simp [asInt, asIntOf, hmax, h63', hneg, hl, variablesAt, hsh, elemOf, run_underlying hp, hlies, hlb]

/-- What the call no longer asks for. -/
theorem St.lose {w0 : World} {M : List Nat} {B : Blk} {L : List Blk} {w w' : World} (h : St w0 M (B :: L) w) (f1 : w'.os = w.os) (f2 : w'.tape = w.tape) (f3 : w'.output = w.output) (f4 : w'.heap.size = w.heap.size) (f5 : ∀ b, b ≠ B.id → w'.heap[b]? = w.heap[b]?) (f6 : w.drawn ≤ w'.drawn) : St w0 M L w' := by
  have hd := h.distinct
  rw [List.map_cons, List.nodup_cons] at hd
  refine ⟨f1.trans h.os, f2.trans h.tape, f3.trans h.output, by have := h.size; omega, ?_, hd.2, ?_, fun B' hB' => h.may B' (List.mem_cons_of_mem _ hB'), Nat.le_trans h.drawn f6⟩
  · intro b hb hm
    rw [f5 b (fun he => hm (by subst he; exact h.may B (by simp) hb))]
    exact h.old b hb hm
  · intro B' hB'
    refine (h.inw B' (List.mem_cons_of_mem _ hB')).of_same (f5 _ (fun he => hd.1 ?_))
    rw [← he]; exact List.mem_map_of_mem hB'

theorem V1.sliceData {x : Operand} {ts : Array TypeId} {a : Addr} {n c : Nat} (hx : ev C.n e x = .slice (some a) n c) (hc : c ≠ 0) : V1 C ⟨dst, .call ⟨.builtin .unsafeSliceData, #[x], ts⟩, ty, pos, after, guard⟩ e L (.pointer (some a)) :=
  V1.builtin (args := [x]) (s := Builtin.unsafeSliceData_ ts ty #[ev C.n e x]) (fun _ => rfl) (fun w _ => by
    rw [hx]; exact Lib.run_unsafeSliceData_row w ts ty a n c hc)
theorem V1.sliceData0 {x : Operand} {ts : Array TypeId} {n c : Nat} (hx : ev C.n e x = .slice none n c) : V1 C ⟨dst, .call ⟨.builtin .unsafeSliceData, #[x], ts⟩, ty, pos, after, guard⟩ e L (.pointer none) :=
  V1.builtin (args := [x]) (s := Builtin.unsafeSliceData_ ts ty #[ev C.n e x]) (fun _ => rfl) (fun w _ => by
    rw [hx]; rfl)
theorem V1.unsafeStr0 {x y : Operand} {pt it : TypeId} {p : Option Addr} (hx : ev C.n e x = .pointer p) (hy : ev C.n e y = .int .i64 0) : V1 C ⟨dst, .call ⟨.builtin .unsafeString, #[x, y], #[pt, it]⟩, ty, pos, after, guard⟩ e L (.string (bstr [])) :=
  V1.builtin (args := [x, y]) (s := Builtin.unsafeString_ #[pt, it] ty #[ev C.n e x, ev C.n e y]) (fun _ => rfl) (fun w _ => by
    rw [hx, hy]; exact Lib.run_unsafeString_none w pt it ty p)
/-- Bytes of the call's own handed on as a string: their block is asked for no more. -/
theorem T1.unsafeStr {x y : Operand} {pt it E : TypeId} {g o size : Nat} {l : List UInt8} {G : List Blk} (hp : C.P.underlying pt = some (.pointer E)) (hc : C.P.cellsOf E = 1) (hx : ev C.n e x = .pointer (some ⟨g, o, none⟩)) (hy : ev C.n e y = .int .i64 l.length) (h0 : l ≠ []) (h63 : l.length ≤ 9223372036854775807)
    (hpk : Pick L ⟨⟨g, some E⟩, o, l.map byteV, size⟩ G) (k : K (putO e dst (.string (bstr l))) G) : T1 C ⟨dst, .call ⟨.builtin .unsafeString, #[x, y], #[pt, it]⟩, ty, pos, after, guard⟩ K e L := by
  intro a w K' Q' hr hs hK
  unfold Oper.wp
  rw [hr.eval]
  have hst : St C.w0 C.M (⟨⟨g, some E⟩, o, l.map byteV, size⟩ :: G) w := hs.perm hpk.perm.symm
  have hin := hst.inw _ (List.mem_cons_self ..)
  obtain ⟨E', hsh, ht⟩ := hin.shape
  rcases ht with ht | ht
  · cases ht
  obtain rfl := Option.some.inj ht
  have hrm : o + (l.map byteV).length ≤ size := hin.room
  rw [List.length_map] at hrm
  have hrun : (execOp (ev C.n e) ⟨dst, .call ⟨.builtin .unsafeString, #[x, y], #[pt, it]⟩, ty, pos, after, guard⟩).run C.P w = .ok (.value (.string (bstr l))) (w.freeze ⟨g, o, none⟩ l.length) := by
    show (Go.builtin .unsafeString #[pt, it] ty ((List.toArray [x, y]).map fun | .const _ => true | _ => false) ((List.toArray [x, y]).map (ev C.n e))).run C.P w = _
    rw [show (List.toArray [x, y]).map (ev C.n e) = #[.pointer (some ⟨g, o, none⟩), .int .i64 l.length] from by rw [List.map_toArray]; simp [hx, hy]]
    show (do pure (Next.value (← Builtin.unsafeString_ #[pt, it] ty #[.pointer (some ⟨g, o, none⟩), .int .i64 l.length])) : Sem Next).run C.P w = _
    refine run_value (run_unsafeStr pt it ty E hp hc g o size hsh l h0 hrm h63 (fun j u hj => ?_))
    rw [addr_add]
    have := hin.cell (o := o + j) (v := byteV u) (by
      show (bif Nat.ble o (o + j) then (l.map byteV)[o + j - o]? else none) = some (byteV u)
      rw [Nat.ble_eq_true_of_le (Nat.le_add_right o j), Nat.add_sub_cancel_left, List.getElem?_map, hj]; rfl)
    exact this
  rw [hrun]
  refine hK _ _ _ _ (hr.put _ _) (hst.lose ?_ ?_ ?_ ?_ ?_ ?_) k
  all_goals first | (unfold World.freeze; split <;> rfl) | (unfold World.freeze; split <;> exact Nat.le_refl _) | skip
  · unfold World.freeze
    split
    · rfl
    · simp
  · intro b hb
    have hb' : b ≠ g := hb
    unfold World.freeze
    split
    · rfl
    · show (w.heap.modify _ _)[b]? = _
      rw [Array.getElem?_modify, if_neg (Ne.symm hb')]
end
end Go.Proofs.YtlpkcbkflfbclaaGreatDoor.S

namespace Go.Proofs.YtlpkcbkflfbclaaGreatDoor.S
open Go.RowKit

/-- A loop that ends within n rounds. -/
def TR (C : Ctx) (c : Code) (Q : Post) (n : Nat) (e : Env) (L : List Blk) : Prop := ∀ a w, Rel C.n e a → St C.w0 C.M L w → Code.rounds C.P c (lift C Q) n a w
def rndU (C : Ctx) (c : Code) (Q : Post) (n : Nat) : Post
  | .normal, e, L => TR C c Q n e L
  | x, e, L => Q x e L
theorem T.rounds {C : Ctx} {c : Code} {Q : Post} {e : Env} {L : List Blk} (n : Nat) (h : TR C c Q n e L) : T C (.loop c) Q e L := fun a w hr hs => wp_loop_rounds n (h a w hr hs)
theorem TR.step {C : Ctx} {c : Code} {Q : Post} {n : Nat} {e : Env} {L : List Blk} (h : T C c (rndU C c Q n) e L) : TR C c Q (n + 1) e L := by
  intro a w hr hs
  show c.wp C.P (Exit.then (Code.rounds C.P c (lift C Q) n) (lift C Q)) a w
  refine wp_mono (h a w hr hs) ?_
  intro ex a' w' ⟨e', L', hr', hs', hq⟩
  cases ex with
  | normal => exact hq a' w' hr' hs'
  | _ => exact ⟨e', L', hr', hs', hq⟩
section
variable {C : Ctx} {e : Env} {L : List Blk}
end
end Go.Proofs.YtlpkcbkflfbclaaGreatDoor.S

namespace Go.Proofs.YtlpkcbkflfbclaaGreatDoor.S
open Go.RowKit

/-- These blocks are among those. -/
def Inc (A L : List Blk) : Prop := ∀ B ∈ A, B ∈ L
theorem Inc.nil {L : List Blk} : Inc [] L := fun _ h => by cases h
theorem Inc.refl {L : List Blk} : Inc L L := fun _ h => h
theorem Inc.here {A L : List Blk} : Inc A (A ++ L) := fun _ h => List.mem_append_left _ h
theorem Inc.skip {A X L : List Blk} (h : Inc A L) : Inc A (X ++ L) := fun B hB => List.mem_append_right _ (h B hB)
theorem Inc.skip1 {A L : List Blk} {X : Blk} (h : Inc A L) : Inc A (X :: L) := fun B hB => List.mem_cons_of_mem _ (h B hB)
theorem Inc.app {A B L : List Blk} (h1 : Inc A L) (h2 : Inc B L) : Inc (A ++ B) L := fun X hX => (List.mem_append.1 hX).elim (h1 X) (h2 X)
theorem Inc.cons {A L : List Blk} {B : Blk} (h1 : Find L B) (h2 : Inc A L) : Inc (B :: A) L := fun X hX => (List.mem_cons.1 hX).elim (fun h => h ▸ h1.mem) (h2 X)
theorem Inc.trans {A B L : List Blk} (h1 : Inc A B) (h2 : Inc B L) : Inc A L := fun X hX => h2 X (h1 X hX)
theorem Inc.find {A L : List Blk} {B : Blk} (h : Inc A L) (hB : B ∈ A) : Find L B := Find.of_mem (h B hB)
/-- What a function does that reads the blocks Ps, gets the blocks X and leaves the blocks Y in their place: whatever else (G) lies beside. -/
def FnG (P : Program) (f : FuncId) (as : List Value) (w0 : World) (Ps X : List Blk) (R : Value → List Blk → Prop) : Prop :=
  ∀ G w, Inc Ps G → St w0 [] (X ++ G) w → Calls P f as.toArray w fun en w' => ∃ v Y, en = .returned v ∧ St w0 [] (Y ++ G) w' ∧ R v Y
/-- .. that only reads. -/
def FnV (P : Program) (f : FuncId) (as : List Value) (w0 : World) (Ps : List Blk) (R : Value → Prop) : Prop := FnG P f as w0 Ps [] fun v Y => Y = [] ∧ R v

theorem FnG.more {P : Program} {f : FuncId} {as : List Value} {w0 : World} {Ps Qs X : List Blk} {R : Value → List Blk → Prop} (h : FnG P f as w0 Ps X R) (hi : Inc Ps Qs) : FnG P f as w0 Qs X R := fun G w hG hs => h G w (hi.trans hG) hs
theorem FnG.mono {P : Program} {f : FuncId} {as : List Value} {w0 : World} {Ps X : List Blk} {R R' : Value → List Blk → Prop} (h : FnG P f as w0 Ps X R) (hR : ∀ v Y, R v Y → R' v Y) : FnG P f as w0 Ps X R' :=
  fun G w hG hs => (h G w hG hs).mono fun _ _ ⟨v, Y, h1, h2, h3⟩ => ⟨v, Y, h1, h2, hR v Y h3⟩
section
variable {C : Ctx} {K : Env → List Blk → Prop} {e : Env} {L : List Blk} {dst : Option Tmp} {ty : TypeId} {pos : String} {after : Array Edge} {guard : Option (Nat × Bool)}

/-- A call of a function's value by such a contract. -/
theorem T1.callGG {g : Operand} {args : List Operand} {ts : Array TypeId} {f : FuncId} {first cap : Array Value} {as : List Value} {Ps X G : List Blk} {R : Value → List Blk → Prop} (hg : ev C.n e g = .func (.func f) first cap) (hf : Has C.P f) (has : first ++ (args.map (ev C.n e)).toArray ++ cap = as.toArray) (hm : C.M = [])
    (hc : FnG C.P f as C.w0 Ps X R) (ht : Take L X G) (hi : Inc Ps G) (k : ∀ v Y, R v Y → K (putO e dst v) (Y ++ G)) : T1 C ⟨dst, .call ⟨.value g, args.toArray, ts⟩, ty, pos, after, guard⟩ K e L :=
  T1.call (R := fun v L' => ∃ Y, L' = Y ++ G ∧ R v Y) hg hf has (fun w hs => by
    rw [hm] at hs ⊢
    exact (hc G w hi (hs.perm ht.perm.symm)).mono fun _ _ ⟨v, Y, h1, h2, h3⟩ => ⟨v, Y ++ G, h1, h2, Y, rfl, h3⟩) (fun v _ ⟨Y, h, hR⟩ => h ▸ k v Y hR)
/-- .. that only reads. -/
theorem T1.callGV {g : Operand} {args : List Operand} {ts : Array TypeId} {f : FuncId} {first cap : Array Value} {as : List Value} {Ps : List Blk} {R : Value → Prop} (hg : ev C.n e g = .func (.func f) first cap) (hf : Has C.P f) (has : first ++ (args.map (ev C.n e)).toArray ++ cap = as.toArray) (hm : C.M = [])
    (hc : FnV C.P f as C.w0 Ps R) (hi : Inc Ps L) (k : ∀ v, R v → K (putO e dst v) L) : T1 C ⟨dst, .call ⟨.value g, args.toArray, ts⟩, ty, pos, after, guard⟩ K e L :=
  T1.callGG hg hf has hm hc Take.nil hi fun v Y ⟨h1, h2⟩ => by subst h1; exact k v h2
/-- A call by name. -/
theorem T1.callM {args : List Operand} {ts : Array TypeId} {f : FuncId} {as : List Value} {Ps X G : List Blk} {R : Value → List Blk → Prop} (hf : Has C.P f) (has : args.map (ev C.n e) = as) (hm : C.M = [])
    (hc : FnG C.P f as C.w0 Ps X R) (ht : Take L X G) (hi : Inc Ps G) (k : ∀ v Y, R v Y → K (putO e dst v) (Y ++ G)) : T1 C ⟨dst, .call ⟨.value (.func f), args.toArray, ts⟩, ty, pos, after, guard⟩ K e L :=
  T1.callGG (first := #[]) (cap := #[]) rfl hf (by simp [has]) hm hc ht hi k
/-- .. that makes new blocks and writes none. -/
theorem T1.callC {args : List Operand} {ts : Array TypeId} {f : FuncId} {as : List Value} {Ps : List Blk} {R : Value → List Blk → Prop} (hf : Has C.P f) (has : args.map (ev C.n e) = as) (hm : C.M = [])
    (hc : FnG C.P f as C.w0 Ps [] R) (hi : Inc Ps L) (k : ∀ v Y, R v Y → K (putO e dst v) (Y ++ L)) : T1 C ⟨dst, .call ⟨.value (.func f), args.toArray, ts⟩, ty, pos, after, guard⟩ K e L :=
  T1.callM hf has hm hc Take.nil hi k
/-- .. that only reads. -/
theorem T1.callV {args : List Operand} {ts : Array TypeId} {f : FuncId} {as : List Value} {Ps : List Blk} {R : Value → Prop} (hf : Has C.P f) (has : args.map (ev C.n e) = as) (hm : C.M = [])
    (hc : FnV C.P f as C.w0 Ps R) (hi : Inc Ps L) (k : ∀ v, R v → K (putO e dst v) L) : T1 C ⟨dst, .call ⟨.value (.func f), args.toArray, ts⟩, ty, pos, after, guard⟩ K e L :=
  T1.callGV (first := #[]) (cap := #[]) rfl hf (by simp [has]) hm hc hi k

theorem FnG.of {P : Program} {f : FuncId} {fn : Func} {c : Code} {as : List Value} {w0 : World} {Ps X : List Blk} {R : Value → List Blk → Prop} (n : Nat) (rs : List ResultVar) (hf : P.funcs[f]? = some fn) (hb : fn.body = some c) (hnt : fn.ntmps = n) (hrs : fn.results = rs.toArray) (hn : Nat.ble as.length n = true)
    (h : ∀ G, Inc Ps G → T ⟨P, w0, [], n⟩ c (ends ⟨P, w0, [], n⟩ rs (fun v L' => ∃ Y, L' = Y ++ G ∧ R v Y)) (env0 as) (X ++ G)) : FnG P f as w0 Ps X R := by
  intro G w hG hst
  subst hnt
  refine calls_of_wp hf hb ?_
  have := h G hG { tmps := as.toArray ++ Array.replicate (fn.ntmps - as.toArray.size) undef, defers := [] } w (rel_start (Nat.le_of_ble_eq_true hn)) hst
  refine wp_mono this ?_
  intro ex a w' ⟨e', L', hr', hs', hq⟩
  cases ex with
  | normal =>
    obtain ⟨vs, L2, G2, h1, hk, Y, rfl, h2⟩ := hq
    exact ⟨hr'.defers, _, run_res (C := ⟨P, w0, [], fn.ntmps⟩) hrs hr' hs' h1, _, Y, rfl, hk.keep hs', h2⟩
  | ret =>
    obtain ⟨vs, L2, G2, h1, hk, Y, rfl, h2⟩ := hq
    exact ⟨hr'.defers, _, run_res (C := ⟨P, w0, [], fn.ntmps⟩) hrs hr' hs' h1, _, Y, rfl, hk.keep hs', h2⟩
  | _ => exact hq.elim
theorem FnV.of {P : Program} {f : FuncId} {fn : Func} {c : Code} {as : List Value} {w0 : World} {Ps : List Blk} {R : Value → Prop} (n : Nat) (rs : List ResultVar) (hf : P.funcs[f]? = some fn) (hb : fn.body = some c) (hnt : fn.ntmps = n) (hrs : fn.results = rs.toArray) (hn : Nat.ble as.length n = true)
    (h : ∀ G, Inc Ps G → T ⟨P, w0, [], n⟩ c (ends ⟨P, w0, [], n⟩ rs (fun v L' => L' = G ∧ R v)) (env0 as) G) : FnV P f as w0 Ps R := by
  refine FnG.of n rs hf hb hnt hrs hn fun G hG => (h G hG).mono ?_
  intro x e L hq
  cases x with
  | normal => obtain ⟨vs, L2, G2, h1, hk, rfl, h2⟩ := hq; exact ⟨vs, L2, G2, h1, hk, [], rfl, rfl, h2⟩
  | ret => obtain ⟨vs, L2, G2, h1, hk, rfl, h2⟩ := hq; exact ⟨vs, L2, G2, h1, hk, [], rfl, rfl, h2⟩
  | _ => exact hq
/-- Such a contract, from the world of the call on. -/
theorem FnV.fn {P : Program} {f : FuncId} {as : List Value} {w : World} {R : Value → Prop} (h : FnV P f as w [] R) : Fn P f as w [] (fun v _ => R v) := by
  intro _ _
  have := h [] w Inc.nil (by simpa using St.start (L := []) (by simp) (by simp))
  exact this.mono fun _ _ ⟨v, Y, h1, h2, h3, h4⟩ => ⟨v, Y, h1, by simpa using h2, h4⟩
end

/-! ### Rows of elements, read wherever some blocks lie -/

/-- A slice of n elements of k cells each, to be read where the blocks Ps lie (or in the world in which the law began). -/
structure RowR (w0 : World) (Ps : List Blk) (k : Nat) (v : Value) (n : Nat) (vs : List Value) : Prop where
  form : ∃ a c, v = .slice a n c
  len : vs.length = n * k
  src : ∀ C : Ctx, C.w0 = w0 → C.M = [] → ∀ L, Inc Ps L → Src C L k v n vs
theorem RowR.more {w0 : World} {Ps Qs : List Blk} {k n : Nat} {v : Value} {vs : List Value} (h : RowR w0 Ps k v n vs) (hi : Inc Ps Qs) : RowR w0 Qs k v n vs :=
  ⟨h.form, h.len, fun C h0 hm L hL => h.src C h0 hm L (hi.trans hL)⟩
theorem RowR.nil {w0 : World} {Ps : List Blk} {k c : Nat} : RowR w0 Ps k (.slice none 0 c) 0 [] := ⟨⟨_, _, rfl⟩, by simp, fun _ _ _ _ _ => .nil⟩
theorem RowR.old {w0 : World} {Ps : List Blk} {k n : Nat} {v : Value} {vs : List Value} (h : SlR w0 v k n vs) : RowR w0 Ps k v n vs :=
  ⟨h.form, h.len, fun C h0 hm L _ => by subst h0; exact h.src hm⟩
theorem RowR.odd {w0 : World} {Ps : List Blk} {k c : Nat} {a : Addr} : RowR w0 Ps k (.slice (some a) 0 c) 0 [] := ⟨⟨_, _, rfl⟩, by simp, fun _ _ _ _ _ => .odd⟩
/-- One's own, in the block where it lies. -/
theorem RowR.own {w0 : World} {Ps : List Blk} {k n b off c size : Nat} {tg : Option TypeId} {vs : List Value} (hB : (⟨⟨b, tg⟩, off, vs, size⟩ : Blk) ∈ Ps) (hl : vs.length = n * k) : RowR w0 Ps k (.slice (some ⟨b, off, none⟩) n c) n vs :=
  ⟨⟨_, _, rfl⟩, hl, fun C _ _ L hL => .sl (RdN.at0 (hL.find hB)) hl⟩
theorem RowR.ofSl {w0 : World} {Ps Ls : List Blk} {k : Nat} {tg : Option TypeId} {v : Value} {vs : List Value} (h : SlG tg v vs k Ls) (hi : Inc Ls Ps) (hk : 0 < k) (n : Nat) (hn : vs.length = n * k) : RowR w0 Ps k v n vs := by
  rcases h with ⟨rfl, rfl, rfl⟩ | ⟨b, off, len, cap, size, rfl, h1, h2, h3, rfl⟩
  · have : n = 0 := by
      rcases Nat.eq_zero_or_pos n with h | h
      · exact h
      · have := Nat.mul_pos h hk; simp at hn; omega
    subst this; exact RowR.nil
  · have : n = len := Nat.eq_of_mul_eq_mul_right hk (by omega)
    subst this
    exact RowR.own (tg := tg) (size := size) (hi _ (List.mem_cons_self ..)) h1
theorem RowR.at {w0 : World} {Ps : List Blk} {k n c : Nat} {a : Option Addr} {vs : List Value} (h : RowR w0 Ps k (.slice a n c) n vs) (hn : 0 < n) (P : Program) : ∃ b o, a = some ⟨b, o, none⟩ ∧ ∀ C : Ctx, C.w0 = w0 → C.M = [] → ∀ L, Inc Ps L → RdN C L ⟨b, o, none⟩ vs := by
  obtain ⟨b, o, rfl⟩ : ∃ b o, a = some ⟨b, o, none⟩ := by
    rcases (h.src ⟨P, w0, [], 0⟩ rfl rfl Ps Inc.refl).inv _ _ _ rfl with h0 | ⟨b, o, h0, _⟩
    · omega
    · exact ⟨b, o, h0⟩
  refine ⟨b, o, rfl, fun C h0 hm L hL => ?_⟩
  rcases (h.src C h0 hm L hL).inv _ _ _ rfl with h0 | ⟨b', o', h0, hr⟩
  · omega
  · cases h0; exact hr
/-- One element of it. -/
theorem RdN.elem {C : Ctx} {L : List Blk} {b o k n i : Nat} {vs : List Value} (h : RdN C L ⟨b, o, none⟩ vs) (hl : vs.length = n * k) (hi : i < n) : RdN C L ⟨b, o + i * k, none⟩ ((vs.drop (i * k)).take k) ∧ ((vs.drop (i * k)).take k).length = k := by
  have hle : i * k + k ≤ n * k := by rw [← Nat.succ_mul]; exact Nat.mul_le_mul_right _ hi
  refine ⟨fun j v hv => ?_, by simp; omega⟩
  rw [List.getElem?_take] at hv
  split at hv
  · rw [List.getElem?_drop] at hv
    have := h (i * k + j) v hv
    show Rd C L ⟨b, o + i * k + j, none⟩ v
    rw [Nat.add_assoc]; exact this
  · cases hv
end Go.Proofs.YtlpkcbkflfbclaaGreatDoor.S

namespace Go.Proofs.YtlpkcbkflfbclaaGreatDoor.S
open Go.RowKit

section
variable {P : Program} {ops : Array Oper} {Q : Exit → Act → World → Prop} {S : World → Prop} {k : Nat}
/-- Whatever order is picked from here on; S holds behind every operation but number k. -/
def wpAnyK (P : Program) (ops : Array Oper) (Q : Exit → Act → World → Prop) (S : World → Prop) (k : Nat) : Nat → Array Bool → Act → World → Prop
  | 0, listed, a, w => Region.ready .any ops listed = [] ∧ Q .normal a w
  | fuel + 1, listed, a, w => (Region.ready .any ops listed = [] → Q .normal a w) ∧ ∀ i ∈ Region.ready .any ops listed, wpOp P ops Q i (fun a' w' => (i ≠ k → S w') ∧ wpAnyK P ops Q S k fuel (listed.setIfInBounds i true) a' w') a w
theorem wpAnyK.any : ∀ {fuel : Nat} {listed : Array Bool} {a : Act} {w : World}, wpAnyK P ops Q S k fuel listed a w → wpAny P .any ops Q fuel listed a w
  | 0, _, _, _, h => h
  | _ + 1, _, _, _, h => ⟨h.1, fun i hi => wpOp_mono (fun _ _ h' => h'.2.any) (h.2 i hi)⟩
/-- Does number k wait for number i? -/
def waits (ops : Array Oper) (k i : Nat) : Bool := match ops[k]? with | some o => o.after.toList.any (fun e => Region.binds .any e && e.on == i) | none => false
theorem waits_spec {i : Nat} (h : waits ops k i = true) : ∃ o, ops[k]? = some o ∧ ∃ e ∈ o.after, Region.binds .any e = true ∧ e.on = i := by
  unfold waits at h
  split at h
  · rename_i o ho
    rw [List.any_eq_true] at h
    obtain ⟨e, he, hb⟩ := h
    simp only [Bool.and_eq_true, beq_iff_eq] at hb
    exact ⟨o, ho, e, by simpa using he, hb.1, hb.2⟩
  · cases h
/-- A reader may be taken first, as long as number k, which waits for it, has not come. -/
theorem wpAnyK_first {i : Nat} {oi : Oper} {v : Value} (hi : ops[i]? = some oi) (hw : waits ops k i = true) (hik : i ≠ k) (hsel : ∀ (j : Nat) (o : Oper) cs b, ops[j]? = some o → o.op ≠ .select cs b) (hQ : ∀ c a w, Q (.panic c) (a.put oi.dst v) w → Q (.panic c) a w) (fuel : Nat) :
    ∀ (listed : Array Bool) (a : Act) (w : World), (∀ j oj, ops[j]? = some oj → j ≠ i → listed.getD j true = false → (∀ e ∈ oj.after, Region.binds .any e = true → e.on ≠ i) → oi.apart ops oj = true) → i ∈ Region.ready .any ops listed → YieldsIf P ops S oi v a → S w →
      wpAnyK P ops Q S k fuel (listed.setIfInBounds i true) (a.put oi.dst v) w → wpAnyK P ops Q S k (fuel + 1) listed a w := by
  have never : ∀ {listed : Array Bool} {j : Nat} {oj : Oper}, i ∈ Region.ready .any ops listed → j ∈ Region.ready .any ops listed → ops[j]? = some oj → ∀ e ∈ oj.after, Region.binds .any e = true → e.on ≠ i := by
    intro listed j oj hri hrj hoj e he hb heq
    obtain ⟨_, o', ho', hall⟩ := mem_ready.1 hrj
    rw [hoj] at ho'
    obtain rfl := Option.some.inj ho'
    have h1 := hall e he hb
    have h0 := (mem_ready.1 hri).1
    rw [heq] at h1
    rcases Nat.lt_or_ge i listed.size with h' | h'
    · simp [h'] at h0 h1; rw [h0] at h1; cases h1
    · simp [Array.getElem?_eq_none h'] at h1
  have notK : ∀ {listed : Array Bool} {j : Nat}, i ∈ Region.ready .any ops listed → j ∈ Region.ready .any ops listed → j ≠ k := by
    rintro listed j hri hrj rfl
    obtain ⟨o, ho, e, he, hb, hon⟩ := waits_spec hw
    exact never hri hrj ho e he hb hon
  induction fuel with
  | zero =>
    intro listed a w _ hr hy hS H
    refine ⟨fun h0 => absurd (h0 ▸ hr) (by simp), fun j hj => ?_⟩
    by_cases hji : j = i
    · subst hji; exact hy.wpOp hi hS ⟨fun _ => hS, H⟩
    · have := ready_mono hj hji
      rw [H.1] at this; cases this
  | succ fuel ih =>
    intro listed a w hfree hr hy hS H
    refine ⟨fun h0 => absurd (h0 ▸ hr) (by simp), fun j hj => ?_⟩
    by_cases hji : j = i
    · subst hji; exact hy.wpOp hi hS ⟨fun _ => hS, H⟩
    · obtain ⟨hjun, oj, hoj, _⟩ := mem_ready.1 hj
      have hpass := wpOp_putIf hoj (hfree j oj hoj hji hjun (never hr hj hoj)) (fun cs b => hsel i oi cs b hi) (fun cs b => hsel j oj cs b hoj) hQ hy (H.2 j (ready_mono hj hji))
      refine wpOp_mono (fun a' w' ⟨hy', hS', hrest⟩ => ⟨hS', ?_⟩) hpass
      have hSw := hS' (notK hr hj)
      refine ih (listed.setIfInBounds j true) a' w' (fun m om hm hmi hun hno => hfree m om hm hmi ?_ hno) (ready_mono hr (Ne.symm hji)) hy' hSw ?_
      · by_cases hjm : j = m
        · subst hjm; exact hjun
        · rwa [getD_set_ne true hjm] at hun
      · rw [Array.setIfInBounds_comm _ _ hji]; exact hrest
end

section
variable {C : Ctx} {e : Env} {L : List Blk} {S : List Blk → Prop} {k : Nat} {ops : Array Oper} {Q : Post} {fuel : Nat} {listed : Array Bool}
def TX (C : Ctx) (S : List Blk → Prop) (k : Nat) (ops : Array Oper) (Q : Post) (fuel : Nat) (listed : Array Bool) (e : Env) (L : List Blk) : Prop :=
  ∀ a w, Rel C.n e a → St C.w0 C.M L w → (listed.getD k true = false → S L) → wpAnyK C.P ops (lift C Q) (fun w => ∃ L, St C.w0 C.M L w ∧ S L) k fuel listed a w
theorem T.drawX {id : Nat} {l : List Oper} {Q : Post} (S : List Blk → Prop) (k : Nat) (hm : C.P.follows .mixedOrders = true) (hS : S L) (h : TX C S k l.toArray Q l.toArray.size (Array.replicate l.toArray.size false) e L) : T C (.region id l.toArray true) Q e L :=
  fun a _ hr hs => wp_region_any hm (wpAnyK.any (h a _ hr (hs.drew _ (Nat.le_succ _)) (fun _ => hS)))
theorem TX.done (hr : Region.ready .any ops listed = []) (h : Q .normal e L) : TX C S k ops Q fuel listed e L := by
  intro a w hrel hs _
  cases fuel with
  | zero => exact ⟨hr, e, L, hrel, hs, h⟩
  | succ n => exact ⟨fun _ => ⟨e, L, hrel, hs, h⟩, by rw [hr]; simp⟩
def okX (ops : Array Oper) (k : Nat) (listed : Array Bool) (i : Nat) : Bool := waits ops k i && !(Nat.beq i k) && !(listed.getD k true)
theorem TX.take (i : Nat) {o : Oper} {v : Value} (hi : ops[i]? = some o) (hsel : Region.noSelect ops = true) (hf : Region.free .any ops listed i = true) (hr : (Region.ready .any ops listed).contains i = true) (hk : okX ops k listed i = true)
    (hg : wantedE C.n ops e o.guard = true) (hQ : ∀ c e L, ¬ Q (.panic c) e L) (hy : ∀ L, S L → V1 C o e L v)
    (h : TX C S k ops Q fuel (listed.setIfInBounds i true) (putO e o.dst v) L) : TX C S k ops Q (fuel + 1) listed e L := by
  intro a w hrel hs hS
  unfold okX at hk
  simp only [Bool.and_eq_true, Bool.not_eq_true'] at hk
  have hik : i ≠ k := fun he => by have := hk.1.2; rw [he, Nat.beq_refl] at this; cases this
  have hSL := hS hk.2
  refine wpAnyK_first hi hk.1.1 hik (Region.noSelect_spec hsel) ?_ fuel listed a w (Region.free_spec hi hf) (by simpa using hr) ?_ ⟨L, hs, hSL⟩ (h _ _ (hrel.put _ _) hs (fun _ => hSL))
  · rintro c a w ⟨e', L', _, _, hq⟩
    exact absurd hq (hQ c e' L')
  · refine .inl ⟨by rw [wanted_eq hrel]; exact hg, ?_⟩
    rintro w' ⟨L', hs', hS'⟩
    rw [hrel.eval]
    exact hy L' hS' w' hs'
theorem TX.all {rs : List Nat} (hr : Region.ready .any ops listed = rs) (hne : rs ≠ [])
    (h : ∀ i ∈ rs, ∃ o, ops[i]? = some o ∧ Tg C ops o (fun e' L' => (i ≠ k → S L') ∧ TX C S k ops Q fuel (listed.setIfInBounds i true) e' L') e L) : TX C S k ops Q (fuel + 1) listed e L := by
  intro a w hrel hs _
  refine ⟨fun h0 => absurd (hr ▸ h0) hne, fun i hi => ?_⟩
  have hi' := hi
  rw [hr] at hi
  obtain ⟨o, ho, hg1, hg0⟩ := h i hi
  have hil : i < listed.size := by
    have := (mem_ready.1 hi').1
    rcases Nat.lt_or_ge i listed.size with h' | h'
    · exact h'
    · simp [Array.getElem?_eq_none h'] at this
  have hnext : ∀ L', (i ≠ k → S L') → (listed.setIfInBounds i true).getD k true = false → S L' := by
    intro L' hS' hk
    refine hS' fun he => ?_
    subst he
    simp [hil] at hk
  unfold wpOp
  simp only [ho]
  rw [wanted_eq hrel]
  cases hw : wantedE C.n ops e o.guard with
  | true =>
    simp only [if_true]
    refine .inl (hg1 hw a w _ _ hrel hs ?_)
    intro a' w' e' L' hr' hs' ⟨hS', hT'⟩
    exact ⟨fun hik => ⟨L', hs', hS' hik⟩, hT' a' w' hr' hs' (hnext L' hS')⟩
  | false =>
    simp only [Bool.false_eq_true, if_false]
    obtain ⟨hS', hT'⟩ := hg0 hw
    exact ⟨fun hik => ⟨L, hs, hS' hik⟩, hT' _ _ (hrel.put _ _) hs (hnext L hS')⟩
theorem T1.and {o : Oper} {K K' : Env → List Blk → Prop} (h : T1 C o K e L) (hk : ∀ e L, K e L → K' e L) : T1 C o K' e L := fun a w K'' Q' hr hs hK => h a w K'' Q' hr hs fun a' w' e' L' h1 h2 h3 => hK a' w' e' L' h1 h2 (hk _ _ h3)
theorem TX.one (i : Nat) {o : Oper} (hr : Region.ready .any ops listed = [i]) (ho : ops[i]? = some o) (hg : wantedE C.n ops e o.guard = true)
    (h : T1 C o (fun e' L' => S L' ∧ TX C S k ops Q fuel (listed.setIfInBounds i true) e' L') e L) : TX C S k ops Q (fuel + 1) listed e L :=
  TX.all hr (by simp) fun j hj => by
    obtain rfl : j = i := by simpa using hj
    exact ⟨o, ho, fun _ => T1.and h fun _ _ h => ⟨fun _ => h.1, h.2⟩, fun h0 => by rw [hg] at h0; cases h0⟩
theorem TX.oneK {o : Oper} (hr : Region.ready .any ops listed = [k]) (ho : ops[k]? = some o) (hg : wantedE C.n ops e o.guard = true)
    (h : T1 C o (fun e' L' => TX C S k ops Q fuel (listed.setIfInBounds k true) e' L') e L) : TX C S k ops Q (fuel + 1) listed e L :=
  TX.all hr (by simp) fun j hj => by
    obtain rfl : j = k := by simpa using hj
    exact ⟨o, ho, fun _ => T1.and h fun _ _ h => ⟨fun hn => absurd rfl hn, h⟩, fun h0 => by rw [hg] at h0; cases h0⟩
end
end Go.Proofs.YtlpkcbkflfbclaaGreatDoor.S

namespace Go.Proofs.YtlpkcbkflfbclaaGreatDoor.S
open Go.RowKit

section
variable {C : Ctx} {K : Env → List Blk → Prop} {e : Env} {L : List Blk} {dst : Option Tmp} {ty : TypeId} {pos : String} {after : Array Edge} {guard : Option (Nat × Bool)}
/-- A function's value that holds one variable. -/
theorem V1.makeFuncC {fn : Go.Fn} {x : Operand} {v : Value} (hx : ev C.n e x = v) : V1 C ⟨dst, .makeFunc fn #[] #[x], ty, pos, after, guard⟩ e L (.func fn #[] #[v]) := by
  subst hx
  have := V1.makeFunc (C := C) (e := e) (L := L) (dst := dst) (ty := ty) (pos := pos) (after := after) (guard := guard) (fn := fn) (first := #[]) (cap := #[x])
  simpa using this
/-- A slice of one element of so many cells. -/
theorem T1.buildOne {t el : TypeId} {k : Nat} {x : Operand} {cs : List Value} {z : Value} (hT : C.P.underlying t = some (.slice el)) (hk : SizeIs C.P el k) (hz : ZeroIs C.P el z) (h16 : k ≤ 16777216) (hx : ev C.n e x = .agg cs.toArray) (hl : cs.length = k)
    (kk : ∀ b, K (putO e dst (.slice (some ⟨b, 0, none⟩) 1 1)) (⟨⟨b, some el⟩, 0, cs, k⟩ :: L)) : T1 C ⟨dst, .buildSlice t 1 (List.toArray [(0, x)]), ty, pos, after, guard⟩ K e L := by
  refine T1.buildSliceG (tg := some el) (vs := [.agg cs.toArray]) hT hk hz (by omega) (by simp [hx]) rfl (fun v hv => by rw [List.mem_singleton] at hv; subst hv; simpa [Value.cells] using hl) (.inr rfl) (fun b => ?_)
  have := kk b
  simpa [Value.cells] using this
/-- A slice of two. -/
theorem T1.buildTwo {t el : TypeId} {k : Nat} {x y : Operand} {cs ds : List Value} {z : Value} (hT : C.P.underlying t = some (.slice el)) (hk : SizeIs C.P el k) (hz : ZeroIs C.P el z) (h16 : 2 * k ≤ 16777216) (hx : ev C.n e x = .agg cs.toArray) (hy : ev C.n e y = .agg ds.toArray) (hl : cs.length = k) (hl2 : ds.length = k)
    (kk : ∀ b, K (putO e dst (.slice (some ⟨b, 0, none⟩) 2 2)) (⟨⟨b, some el⟩, 0, cs ++ ds, 2 * k⟩ :: L)) : T1 C ⟨dst, .buildSlice t 2 (List.toArray [(0, x), (1, y)]), ty, pos, after, guard⟩ K e L := by
  refine T1.buildSliceG (tg := some el) (vs := [.agg cs.toArray, .agg ds.toArray]) hT hk hz h16 (by simp [hx, hy]) rfl (fun v hv => by simp at hv; rcases hv with rfl | rfl <;> simpa [Value.cells]) (.inr rfl) (fun b => ?_)
  have := kk b
  simpa [Value.cells] using this
/-- Some elements of several cells each. -/
theorem T1.buildMany {t el : TypeId} {k n : Nat} {ps : List (Nat × Operand)} {os : List Operand} {vss : List (List Value)} {z : Value} (hT : C.P.underlying t = some (.slice el)) (hk : SizeIs C.P el k) (hz : ZeroIs C.P el z) (h16 : n * k ≤ 16777216) (hps : ps = (os.zipIdx 0).map (fun p => (p.2, p.1))) (hev : Evs C.n e os (vss.map fun l => .agg l.toArray)) (hn : vss.length = n) (hl : ∀ l ∈ vss, l.length = k)
    (kk : ∀ b, K (putO e dst (.slice (some ⟨b, 0, none⟩) n n)) (⟨⟨b, some el⟩, 0, vss.flatten, n * k⟩ :: L)) : T1 C ⟨dst, .buildSlice t n ps.toArray, ty, pos, after, guard⟩ K e L := by
  subst hps
  refine T1.buildSliceG (tg := some el) hT hk hz h16 (parts_eq hev) (by simpa using hn) (fun v hv => by obtain ⟨l, hl', rfl⟩ := List.mem_map.1 hv; simpa [Value.cells] using hl l hl') (.inr rfl) (fun b => ?_)
  have : ((vss.map fun l => Value.agg l.toArray).map (fun v => v.cells.toList)).flatten = vss.flatten := by
    rw [List.map_map]; congr 1
    conv => rhs; rw [← List.map_id vss]
    exact List.map_congr_left fun l _ => by simp [Value.cells]
  rw [this]
  exact kk b
/-- A piece out of the midst of a block, by what lies ahead of it. -/
theorem RdN.mid2 {b off o size : Nat} {tg : Option TypeId} {pre cs post : List Value} (hf : Find L ⟨⟨b, tg⟩, off, pre ++ (cs ++ post), size⟩) (ho : o = off + pre.length) : RdN C L ⟨b, o, none⟩ cs := by
  subst ho
  refine RdN.own hf fun i v hv => ?_
  show (bif Nat.ble off (off + pre.length + i) then (pre ++ (cs ++ post))[off + pre.length + i - off]? else none) = some v
  rw [Nat.ble_eq_true_of_le (by omega), cond_true, show off + pre.length + i - off = pre.length + i by omega, List.getElem?_append_right (by omega), Nat.add_sub_cancel_left, List.getElem?_append_left (List.getElem?_eq_some_iff.1 hv).1]
  exact hv
theorem Rd.mid2 {b off o size i : Nat} {tg : Option TypeId} {pre cs post : List Value} {v : Value} (hf : Find L ⟨⟨b, tg⟩, off, pre ++ (cs ++ post), size⟩) (hv : cs[i]? = some v) (ho : o = off + pre.length + i) : Rd C L ⟨b, o, none⟩ v := by
  subst ho
  exact (RdN.mid2 (C := C) hf rfl) i v hv
end
end Go.Proofs.YtlpkcbkflfbclaaGreatDoor.S

namespace Go.Proofs.YtlpkcbkflfbclaaGreatDoor.S
open Go.RowKit

section
variable {C : Ctx} {K : Env → List Blk → Prop} {e : Env} {L : List Blk} {dst : Option Tmp} {ty : TypeId} {pos : String} {after : Array Edge} {guard : Option (Nat × Bool)}
/-- A slice cut, not at its capacity's end. -/
theorem V1.sliceK {t el : TypeId} {x : Operand} {lo hi : Option Operand} {b o len cap kz : Nat} (l h : Nat) (hT : C.P.underlying t = some (.slice el)) (hk : SizeIs C.P el kz) (hx : ev C.n e x = .slice (some ⟨b, o, none⟩) len cap) (hl : bd C.n e lo 0 = some (l : Int)) (hh : bd C.n e hi len = some (h : Int)) (h1 : l ≤ h) (h2 : h ≤ cap) (h3 : l < cap) :
    V1 C ⟨dst, .slice t x lo hi none, ty, pos, after, guard⟩ e L (.slice (some ⟨b, o + l * kz, none⟩) (h - l) (cap - l)) := by
  have := V1.sliceSl (C := C) (e := e) (L := L) (dst := dst) (ty := ty) (pos := pos) (after := after) (guard := guard) hT hk hx hl hh (by omega) (by omega) (by omega)
  simp only [Int.toNat_natCast] at this
  rwa [if_neg (by omega)] at this
/-- .. wherever; of the place nothing is said. -/
theorem V1.sliceAny {t el : TypeId} {x : Operand} {lo hi : Option Operand} {b o len cap kz : Nat} (l h : Nat) (hT : C.P.underlying t = some (.slice el)) (hk : SizeIs C.P el kz) (hx : ev C.n e x = .slice (some ⟨b, o, none⟩) len cap) (hl : bd C.n e lo 0 = some (l : Int)) (hh : bd C.n e hi len = some (h : Int)) (h1 : l ≤ h) (h2 : h ≤ cap) :
    V1 C ⟨dst, .slice t x lo hi none, ty, pos, after, guard⟩ e L (.slice (some ⟨b, if cap = l then o else o + l * kz, none⟩) (h - l) (cap - l)) := by
  have := V1.sliceSl (C := C) (e := e) (L := L) (dst := dst) (ty := ty) (pos := pos) (after := after) (guard := guard) hT hk hx hl hh (by omega) (by omega) (by omega)
  simpa only [Int.toNat_natCast] using this

/-- An empty slice, not nil. -/
theorem T1.buildNone {t el : TypeId} {k : Nat} {z : Value} (hT : C.P.underlying t = some (.slice el)) (hk : SizeIs C.P el k) (hz : ZeroIs C.P el z)
    (kk : ∀ b, K (putO e dst (.slice (some ⟨b, 0, none⟩) 0 0)) (⟨⟨b, some el⟩, 0, [], 0⟩ :: L)) : T1 C ⟨dst, .buildSlice t 0 (List.toArray []), ty, pos, after, guard⟩ K e L := by
  refine T1.buildSliceG (tg := some el) (vs := []) (ps := []) hT hk hz (by omega) rfl rfl (by simp) (.inr rfl) (fun b => ?_)
  have := kk b
  simpa using this
end
end Go.Proofs.YtlpkcbkflfbclaaGreatDoor.S

namespace Go.Proofs.YtlpkcbkflfbclaaGreatDoor.S
open Go.RowKit

section
variable {C : Ctx} {Q : Post} {l : List Oper} {F : Nat → Value → List Blk → Prop} {e0 : Env} {L0 : List Blk} {k : Nat}
end

/-! ### Facts that stay true -/
end Go.Proofs.YtlpkcbkflfbclaaGreatDoor.S
