/- Laws for what strings.Builder does: blocks that bear their type, pointers turned and turned back, bytes handed on as a string. Holds for every program. -/
import Derived.Test.YtlpkcbkflfbclaaDoorOps9
import Derived.Lib.Builder
import Derived.Lib.UnsafeStr
import Derived.Lib.MakeNoZero
import Derived.Laws.Externs
namespace Go.Proofs.YtlpkcbkflfbclaaDoor.S
open Go.RowKit

section
variable {C : Ctx} {K : Env → List Blk → Prop} {e : Env} {L : List Blk}
variable {dst : Option Tmp} {ty : TypeId} {pos : String} {after : Array Edge} {guard : Option (Nat × Bool)}

/-- A new variable of many cells; its type is known. -/
theorem T1.allocT {elem : TypeId} {zl : List Value} (n : Nat) (hz : ZeroIs C.P elem (.agg zl.toArray)) (hn : zl.length = n) (k : ∀ b, K (putO e dst (.pointer (some ⟨b, 0, none⟩))) (⟨⟨b, some elem⟩, 0, zl, n⟩ :: L)) : T1 C ⟨dst, .alloc elem, ty, pos, after, guard⟩ K e L := by
  intro a w K' Q' hr hs hK
  unfold Oper.wp
  rw [hr.eval]
  have hrun : (execOp (ev C.n e) ⟨dst, .alloc elem, ty, pos, after, guard⟩).run C.P w = .ok (.value (.pointer (some ⟨w.heap.size, 0, none⟩))) { w with heap := w.heap.push (.cells zl.toArray elem) } := by
    show (do pure (Next.value (← Instr.alloc elem true (.tuple #[]))) : Sem Next).run C.P w = _
    refine run_value ?_
    unfold Instr.alloc
    rw [run_bind (run_zeroValue hz w)]
    rfl
  rw [hrun]
  subst hn
  exact hK _ _ _ _ (hr.put _ _) (hs.push (B := ⟨⟨w.heap.size, some elem⟩, 0, zl, zl.length⟩) (c := zl.toArray) (E := elem) (lo := 0) (hi := 0) (k := w.drawn) rfl (by show 0 + zl.length ≤ zl.length; omega) (by simp) (fun i hi => by show zl.toArray[0 + i]? = zl[i]?; simp) (.inl rfl) (.inr ⟨rfl, rfl⟩)) (k _)

theorem Blk.In.shape {b off size : Nat} {tg : Option TypeId} {cells : List Value} {w : World} (h : Blk.In ⟨⟨b, tg⟩, off, cells, size⟩ w) : ∃ E, w.shape? b = some (E, size) ∧ (tg = Option.none ∨ tg = some E) := by
  obtain ⟨c, E, lo, hi, hh, hsz, _, _, ht⟩ := h.here
  refine ⟨E, ?_, ht.imp (fun h => h) And.left⟩
  have hh' : w.heap[b]? = some (.cells c E (lo, hi)) := hh
  have hsz' : c.size = size := hsz
  simp only [World.shape?, hh', hsz']

/-- A pointer as one of no type. -/
theorem V1.toUnsafe {s d t : TypeId} {x : Operand} {b o off size k : Nat} {tg : Option TypeId} {cells : List Value} (hs : C.P.underlying s = some (.pointer t)) (hd : C.P.underlying d = some .unsafePointer) (hk : SizeIs C.P t k) (hk0 : k ≠ 0) (hx : ev C.n e x = .pointer (some ⟨b, o, none⟩)) (hf : Find L ⟨⟨b, tg⟩, off, cells, size⟩) (ho : o < size) :
    V1 C ⟨dst, .convert s d x, ty, pos, after, guard⟩ e L (.pointer (some ⟨b, o, none⟩)) :=
  V1.run (s := convert s d (ev C.n e x)) rfl (fun w hst => by
    rw [hx]
    obtain ⟨j, hj, hjs⟩ := Option.map_eq_some_iff.1 hk
    obtain ⟨E, hsh, _⟩ := (hst.inw _ hf.mem).shape
    exact Lib.run_to_unsafe w ⟨b, o, none⟩ hs hd hj (by rw [hjs]; exact hk0) hsh ho)
/-- .. and back: the block bears its type. -/
theorem V1.ofUnsafe {s d u E : TypeId} {x : Operand} {b o off size k : Nat} {cells : List Value} (hs : C.P.underlying s = some .unsafePointer) (hd : C.P.underlying d = some (.pointer u)) (hk : SizeIs C.P u k) (hx : ev C.n e x = .pointer (some ⟨b, o, none⟩)) (hf : Find L ⟨⟨b, some E⟩, off, cells, size⟩) (hl : liesAt C.P C.P.depth E (size / C.P.cellsOf E) o u 1 = true) :
    V1 C ⟨dst, .convert s d x, ty, pos, after, guard⟩ e L (.pointer (some ⟨b, o, none⟩)) :=
  V1.run (s := convert s d (ev C.n e x)) rfl (fun w hst => by
    rw [hx]
    obtain ⟨j, hj, _⟩ := Option.map_eq_some_iff.1 hk
    obtain ⟨E', hsh, ht⟩ := (hst.inw _ hf.mem).shape
    rcases ht with ht | ht
    · cases ht
    · obtain rfl := Option.some.inj ht
      exact Lib.run_from_unsafe w ⟨b, o, none⟩ hs hd hj hsh hl)
theorem V1.neSame {t yt te : TypeId} {x y : Operand} {a : Addr} {k : Nat} (hT : C.P.underlying t = some (.pointer te)) (hk : SizeIs C.P te k) (hx : ev C.n e x = .pointer (some a)) (hy : ev C.n e y = .pointer (some a)) : V1 C ⟨dst, .binOp .neq t x y yt, ty, pos, after, guard⟩ e L (.bool false) :=
  V1.run (s := do eqGuard .neq t x y (ev C.n e x) (ev C.n e y); binOp .neq t (ev C.n e x) (ev C.n e y)) rfl (fun w _ => by
    rw [hx, hy]
    obtain ⟨j, hj, _⟩ := Option.map_eq_some_iff.1 hk
    show (binOp .neq t (.pointer (some a)) (.pointer (some a))).run C.P w = _
    exact Lib.run_neq_ptr_same w a hT hj)
theorem V1.eqNil0 {t yt el : TypeId} {x y : Operand} (hT : C.P.underlying t = some (.pointer el)) (hx : ev C.n e x = .pointer none) (hy : ev C.n e y = .pointer none) : V1 C ⟨dst, .binOp .eql t x y yt, ty, pos, after, guard⟩ e L (.bool true) :=
  V1.run (s := do eqGuard .eql t x y (ev C.n e x) (ev C.n e y); binOp .eql t (ev C.n e x) (ev C.n e y)) rfl (fun w _ => by
    rw [hx, hy]
    show (do pure (Value.bool (← Op.equal t (.pointer none) (.pointer none))) : Sem Value).run C.P w = _
    have : (Op.equal t (.pointer none) (.pointer none)).run C.P w = .ok true w := by
      unfold Op.equal Op.maxDepth Op.equalIn
      rw [run_bind (run_underlying hT w)]; rfl
    rw [run_bind this]; rfl)
/-- A function of the library that hands back what it got. -/
theorem V1.ext {f : FuncId} {fn : Func} {x : Operand} {g : Array Value → Sem Value} {ts : Array TypeId} {v : Value} (hf : C.P.funcs[f]? = some fn) (h1 : (fn.name == "runtime.NumGoroutine") = false) (h2 : fn.body.isNone = true) (h3 : Extern.findNext fn = none) (h4 : Extern.find fn = some g) (hx : ev C.n e x = v) (hg : ∀ w, (g #[v]).run C.P w = .ok v w) :
    V1 C ⟨dst, .call ⟨.value (.func f), #[x], ts⟩, ty, pos, after, guard⟩ e L v := fun w _ => by
  show (do let d ← Deferred.ofValue (.func (.func f) #[] #[]) ((List.toArray [x]).map (ev C.n e)); Go.invoke d.target d.args : Sem Next).run C.P w = _
  rw [show (List.toArray [x]).map (ev C.n e) = #[v] from by rw [List.map_toArray]; simp [hx]]
  show (callFunc f ((#[] ++ #[v]) ++ #[])).run C.P w = _
  rw [show ((#[] ++ #[v]) ++ #[] : Array Value) = #[v] from by simp, run_callFunc_extern hf h1 h2 h3 h4, hg w]; rfl

theorem liesAt_row {P : Program} {E : TypeId} (hc : P.cellsOf E = 1) (count o n : Nat) (hn : o + n ≤ count) : liesAt P P.depth E count o E n = true := by
  have hd : P.depth = (2 * (P.types.size + Made.depth) + 1) + 1 := rfl
  rw [hd]
  simp only [liesAt, Bool.or_eq_true]
  left
  rw [hd]
  simp [rowAt, hc, sameLayout, Nat.mod_one]
  omega
theorem run_unsafeStr {P : Program} {w : World} (pt it ty E : TypeId) (hp : P.underlying pt = some (.pointer E)) (hc : P.cellsOf E = 1) (g o cells : Nat) (hsh : w.shape? g = some (E, cells)) (l : List UInt8) (h0 : l ≠ []) (hn : o + l.length ≤ cells) (h63 : l.length ≤ 9223372036854775807)
    (hcell : ∀ j x, l[j]? = some x → w.cell? ((⟨g, o, none⟩ : Addr).add j) = some (.int .u8 x.toNat)) :
    (Builtin.unsafeString_ #[pt, it] ty #[.pointer (some ⟨g, o, none⟩), .int .i64 l.length]).run P w = .ok (.string ⟨l.toArray⟩) (w.freeze ⟨g, o, none⟩ l.length) := by
  have hl : l.length ≠ 0 := by simpa using h0
  have hlb := Lib.run_loadBytes (P := P) w l ⟨g, o, none⟩ .empty hcell
  have hlies := liesAt_row (P := P) hc (cells / P.cellsOf E) o l.length (by rw [hc]; simpa using hn)
  have h63' : ¬ (9223372036854775807 : Int) < (l.length : Int) := by omega
  have hdef : Builtin.unsafeString_ #[pt, it] ty #[.pointer (some ⟨g, o, none⟩), .int .i64 l.length] =
      (do
        let n ← asInt (.int .i64 l.length)
        if n < 0 then runtimePanic (.error "unsafe.String: len out of range")
        if n > IntKind.i64.max then unsupported (.unsafePointer "String: a length above the largest int")
        if n = 0 then pure (.string .empty)
        else if ← variablesAt ⟨g, o, none⟩ (← elemOf pt) n.toNat then do
          let s ← loadBytes ⟨g, o, none⟩ .empty n.toNat
          freeze ⟨g, o, none⟩ n.toNat
          pure (.string s)
        else unsupported (.unsafePointer "String: not so many bytes at ptr")) := rfl
  rw [hdef]
  have hmax : IntKind.i64.max = 9223372036854775807 := rfl
  have hneg : ¬ (l.length : Int) < 0 := by omega
  simp [asInt, asIntOf, hmax, h63', hneg, hl, variablesAt, hsh, elemOf, run_underlying hp, hlies, hlb]

/-- What the call no longer asks for. -/
theorem St.lose {w0 : World} {M : List Nat} {B : Blk} {L : List Blk} {w w' : World} (h : St w0 M (B :: L) w) (f1 : w'.os = w.os) (f2 : w'.tape = w.tape) (f3 : w'.output = w.output) (f4 : w'.heap.size = w.heap.size) (f5 : ∀ b, b ≠ B.id → w'.heap[b]? = w.heap[b]?) (f6 : w.drawn ≤ w'.drawn) : St w0 M L w' := by
  have hd := h.distinct
  rw [List.map_cons, List.nodup_cons] at hd
  refine ⟨f1.trans h.os, f2.trans h.tape, f3.trans h.output, by have := h.size; omega, ?_, hd.2, ?_, fun B' hB' => h.may B' (List.mem_cons_of_mem _ hB'), Nat.le_trans h.drawn f6⟩
  · intro b hb hm
    rw [f5 b (fun he => hm (by subst he; exact h.may B (by simp) hb))]
    exact h.old b hb hm
  · intro B' hB'
    refine (h.inw B' (List.mem_cons_of_mem _ hB')).of_same (f5 _ (fun he => hd.1 ?_))
    rw [← he]; exact List.mem_map_of_mem hB'

theorem V1.sliceData {x : Operand} {ts : Array TypeId} {a : Addr} {n c : Nat} (hx : ev C.n e x = .slice (some a) n c) (hc : c ≠ 0) : V1 C ⟨dst, .call ⟨.builtin .unsafeSliceData, #[x], ts⟩, ty, pos, after, guard⟩ e L (.pointer (some a)) :=
  V1.builtin (args := [x]) (s := Builtin.unsafeSliceData_ ts ty #[ev C.n e x]) (fun _ => rfl) (fun w _ => by
    rw [hx]; exact Lib.run_unsafeSliceData_row w ts ty a n c hc)
theorem V1.sliceData0 {x : Operand} {ts : Array TypeId} {n c : Nat} (hx : ev C.n e x = .slice none n c) : V1 C ⟨dst, .call ⟨.builtin .unsafeSliceData, #[x], ts⟩, ty, pos, after, guard⟩ e L (.pointer none) :=
  V1.builtin (args := [x]) (s := Builtin.unsafeSliceData_ ts ty #[ev C.n e x]) (fun _ => rfl) (fun w _ => by
    rw [hx]; rfl)
theorem V1.unsafeStr0 {x y : Operand} {pt it : TypeId} {p : Option Addr} (hx : ev C.n e x = .pointer p) (hy : ev C.n e y = .int .i64 0) : V1 C ⟨dst, .call ⟨.builtin .unsafeString, #[x, y], #[pt, it]⟩, ty, pos, after, guard⟩ e L (.string (bstr [])) :=
  V1.builtin (args := [x, y]) (s := Builtin.unsafeString_ #[pt, it] ty #[ev C.n e x, ev C.n e y]) (fun _ => rfl) (fun w _ => by
    rw [hx, hy]; exact Lib.run_unsafeString_none w pt it ty p)
/-- Bytes of the call's own handed on as a string: their block is asked for no more. -/
theorem T1.unsafeStr {x y : Operand} {pt it E : TypeId} {g o size : Nat} {l : List UInt8} {G : List Blk} (hp : C.P.underlying pt = some (.pointer E)) (hc : C.P.cellsOf E = 1) (hx : ev C.n e x = .pointer (some ⟨g, o, none⟩)) (hy : ev C.n e y = .int .i64 l.length) (h0 : l ≠ []) (h63 : l.length ≤ 9223372036854775807)
    (hpk : Pick L ⟨⟨g, some E⟩, o, l.map byteV, size⟩ G) (k : K (putO e dst (.string (bstr l))) G) : T1 C ⟨dst, .call ⟨.builtin .unsafeString, #[x, y], #[pt, it]⟩, ty, pos, after, guard⟩ K e L := by
  intro a w K' Q' hr hs hK
  unfold Oper.wp
  rw [hr.eval]
  have hst : St C.w0 C.M (⟨⟨g, some E⟩, o, l.map byteV, size⟩ :: G) w := hs.perm hpk.perm.symm
  have hin := hst.inw _ (List.mem_cons_self ..)
  obtain ⟨E', hsh, ht⟩ := hin.shape
  rcases ht with ht | ht
  · cases ht
  obtain rfl := Option.some.inj ht
  have hrm : o + (l.map byteV).length ≤ size := hin.room
  rw [List.length_map] at hrm
  have hrun : (execOp (ev C.n e) ⟨dst, .call ⟨.builtin .unsafeString, #[x, y], #[pt, it]⟩, ty, pos, after, guard⟩).run C.P w = .ok (.value (.string (bstr l))) (w.freeze ⟨g, o, none⟩ l.length) := by
    show (Go.builtin .unsafeString #[pt, it] ty ((List.toArray [x, y]).map fun | .const _ => true | _ => false) ((List.toArray [x, y]).map (ev C.n e))).run C.P w = _
    rw [show (List.toArray [x, y]).map (ev C.n e) = #[.pointer (some ⟨g, o, none⟩), .int .i64 l.length] from by rw [List.map_toArray]; simp [hx, hy]]
    show (do pure (Next.value (← Builtin.unsafeString_ #[pt, it] ty #[.pointer (some ⟨g, o, none⟩), .int .i64 l.length])) : Sem Next).run C.P w = _
    refine run_value (run_unsafeStr pt it ty E hp hc g o size hsh l h0 hrm h63 (fun j u hj => ?_))
    rw [addr_add]
    have := hin.cell (o := o + j) (v := byteV u) (by
      show (bif Nat.ble o (o + j) then (l.map byteV)[o + j - o]? else none) = some (byteV u)
      rw [Nat.ble_eq_true_of_le (Nat.le_add_right o j), Nat.add_sub_cancel_left, List.getElem?_map, hj]; rfl)
    exact this
  rw [hrun]
  refine hK _ _ _ _ (hr.put _ _) (hst.lose ?_ ?_ ?_ ?_ ?_ ?_) k
  all_goals first | (unfold World.freeze; split <;> rfl) | (unfold World.freeze; split <;> exact Nat.le_refl _) | skip
  · unfold World.freeze
    split
    · rfl
    · simp
  · intro b hb
    have hb' : b ≠ g := hb
    unfold World.freeze
    split
    · rfl
    · show (w.heap.modify _ _)[b]? = _
      rw [Array.getElem?_modify, if_neg (Ne.symm hb')]
/-- So many bytes of whatever. -/
theorem T1.makeNoZero {f : FuncId} {fn : Func} {x : Operand} {ps ts : Array TypeId} {t E : TypeId} {n : Nat} (hf : C.P.funcs[f]? = some fn) (h1 : (fn.name == "runtime.NumGoroutine") = false) (h2 : fn.body.isNone = true) (h3 : Extern.findNext fn = none) (h4 : Extern.find fn = some (Extern.BytealgMakeNoZero.makeNoZero ps #[t])) (ht : C.P.underlying t = some (.slice E))
    (hx : ev C.n e x = .int .i64 n) (hn : n ≤ 281474976710656) (k : ∀ b cap, n ≤ cap → K (putO e dst (.slice (some ⟨b, 0, none⟩) n cap)) (⟨⟨b, some E⟩, 0, [], cap⟩ :: L)) : T1 C ⟨dst, .call ⟨.value (.func f), (List.toArray [x]), ts⟩, ty, pos, after, guard⟩ K e L := by
  intro a w K' Q' hr hs hK
  unfold Oper.wp
  rw [hr.eval]
  obtain ⟨cs, hrun, hge, _⟩ := Lib.run_makeNoZero (P := C.P) w ps t E ht n hn
  have hexec : (execOp (ev C.n e) ⟨dst, .call ⟨.value (.func f), (List.toArray [x]), ts⟩, ty, pos, after, guard⟩).run C.P w = .ok (.value (.slice (some ⟨w.heap.size, 0, none⟩) n cs.size)) (w.drew.drew.alloc (.cells cs E)) := by
    show (do let d ← Deferred.ofValue (.func (.func f) #[] #[]) ((List.toArray [x]).map (ev C.n e)); Go.invoke d.target d.args : Sem Next).run C.P w = _
    rw [show (List.toArray [x]).map (ev C.n e) = #[.int .i64 n] from by rw [List.map_toArray]; simp [hx]]
    show (callFunc f ((#[] ++ #[.int .i64 n]) ++ #[])).run C.P w = _
    rw [show ((#[] ++ #[.int .i64 n]) ++ #[] : Array Value) = #[.int .i64 n] from by simp, run_callFunc_extern hf h1 h2 h3 h4, hrun]; rfl
  rw [hexec]
  refine hK _ _ _ _ (hr.put _ _) ?_ (k w.heap.size cs.size hge)
  exact hs.push (B := ⟨⟨w.heap.size, some E⟩, 0, [], cs.size⟩) (c := cs) (E := E) (lo := 0) (hi := 0) (k := w.drawn + 2) rfl (by show 0 + 0 ≤ cs.size; omega) rfl (fun i hi => absurd hi (Nat.not_lt_zero _)) (.inl rfl) (.inr ⟨rfl, rfl⟩)
end
end Go.Proofs.YtlpkcbkflfbclaaDoor.S
