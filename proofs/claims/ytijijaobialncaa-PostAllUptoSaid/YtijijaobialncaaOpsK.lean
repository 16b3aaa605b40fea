/- Maps of one's own, whose keys are strings or integers: made, looked up, written. Holds for every program. -/
import Derived.Test.YtijijaobialncaaOps9
namespace Go.Proofs.Ytijijaobialncaa.S
open Go.RowKit

def mapKey (b : Nat) : Key := @Key.mk b none ⟨true⟩
def flatP (kv : List (Value × Value)) : List Value := kv.flatMap fun p => [p.1, p.2]
/-- A map of one's own: its entries. -/
def MB (b : Nat) (kv : List (Value × Value)) : Blk := ⟨mapKey b, 0, flatP kv, (flatP kv).length⟩
def entP (x : MapEntry) : Value × Value := (x.key, x.val)
theorem flatP_inj : ∀ {a b : List (Value × Value)}, flatP a = flatP b → a = b
  | [], [], _ => rfl
  | [], p :: b, h => by simp [flatP] at h
  | p :: a, [], h => by simp [flatP] at h
  | (k, v) :: a, (k', v') :: b, h => by
    have h' : k :: v :: flatP a = k' :: v' :: flatP b := by simpa [flatP] using h
    injection h' with h1 h2
    injection h2 with h2 h3
    rw [h1, h2, flatP_inj h3]
theorem flatM_P (es : List MapEntry) : flatM es = flatP (es.map entP) := by
  unfold flatM flatP
  rw [List.flatMap_map]; rfl
theorem MB.invS {b : Nat} {kv : List (Value × Value)} {w : World} (h : (MB b kv).In w) : ∃ es clock, w.heap[b]? = some (.map es clock) ∧ es.toList.map entP = kv ∧ StampOk es.toList clock := by
  obtain ⟨es, clock, h1, h2, h3⟩ := h.mapped rfl
  exact ⟨es, clock, h1, flatP_inj (by rw [← flatM_P]; exact h2), h3⟩
theorem MB.inv {b : Nat} {kv : List (Value × Value)} {w : World} (h : (MB b kv).In w) : ∃ es clock, w.heap[b]? = some (.map es clock) ∧ es.toList.map entP = kv := by
  obtain ⟨es, clock, h1, h2, _⟩ := MB.invS h
  exact ⟨es, clock, h1, h2⟩
theorem MB.of {b : Nat} {kv : List (Value × Value)} {w : World} {es : Array MapEntry} {clock : Nat} (h1 : w.heap[b]? = some (.map es clock)) (h2 : es.toList.map entP = kv) (h3 : StampOk es.toList clock) : (MB b kv).In w :=
  ⟨by show 0 + (flatP kv).length ≤ (flatP kv).length; omega, fun h => (by cases h), fun _ => ⟨es, clock, h1, by rw [flatM_P, h2]; rfl, h3⟩⟩
theorem St.newMap {w0 : World} {M : List Nat} {L : List Blk} {w : World} (h : St w0 M L w) : St w0 M (MB w.heap.size [] :: L) { w with heap := w.heap.push (.map #[] 0) } := by
  have hk : ∀ b, b < w.heap.size → (w.heap.push (.map #[] 0))[b]? = w.heap[b]? := fun b hb => by rw [Array.getElem?_push, if_neg (by omega)]
  refine ⟨h.os, h.tape, h.output, ?_, ?_, ?_, ?_, ?_, h.drawn⟩
  · have := h.size; show _ ≤ (w.heap.push _).size; rw [Array.size_push]; omega
  · intro b hb hm
    have := h.size
    exact (hk b (by omega)).trans (h.old b hb hm)
  · simp only [List.map_cons, List.nodup_cons]
    refine ⟨fun hm => ?_, h.distinct⟩
    obtain ⟨B', hB', he⟩ := List.mem_map.1 hm
    have h1 := (h.inw B' hB').lt
    have h2 : B'.id = w.heap.size := he
    omega
  · intro B' hB'
    rcases List.mem_cons.1 hB' with rfl | hB'
    · exact MB.of (es := #[]) (clock := 0) (by show (w.heap.push _)[w.heap.size]? = _; simp) rfl ⟨by simp, by simp⟩
    · exact (h.inw B' hB').of_same (hk _ (h.inw B' hB').lt)
  · intro B' hB' hlt
    rcases List.mem_cons.1 hB' with rfl | hB'
    · have h1 := h.size
      have h2 : w.heap.size < w0.heap.size := hlt
      omega
    · exact h.may B' hB' hlt

/-! ### Keys that are compared at once -/
def plainK (d : TypeDesc) : Bool := match d with | .string => true | .int _ => true | _ => false
theorem run_checkKeyP {P : Program} {kt : TypeId} {d : TypeDesc} {key : Value} {w : World} {e : Bool} (hk : P.underlying kt = some d) (hd : plainK d = true) : (Instr.checkKey e 10000 kt key).run P w = .ok () w := by
  show (Instr.checkKey e (9999 + 1) kt key).run P w = _
  unfold Instr.checkKey
  rw [run_bind (run_underlying hk w)]
  cases d <;> first | rfl | cases hd
def findQ (q : Value → Bool) : List (Value × Value) → Nat → Option (Nat × Value)
  | [], _ => none
  | p :: kv, i => if q p.1 then some (i, p.2) else findQ q kv (i + 1)
theorem findNow_Q {d : TypeDesc} {key : Value} {q : Value → Bool} : ∀ (es : List MapEntry) (i : Nat), (∀ p ∈ es.map entP, Instr.sameNow d key p.1 = some (q p.1)) → Instr.findNow d key es i = some (findQ q (es.map entP) i)
  | [], _, _ => rfl
  | e :: es, i, h => by
    have h1 := h (entP e) (by simp)
    have ih := findNow_Q es (i + 1) fun p hp => h p (by simp [hp])
    rw [Instr.findNow, List.map_cons, findQ]
    have h2 : Instr.sameNow d key e.key = some (q e.key) := h1
    rw [h2]
    cases hq : q e.key with
    | true => simp only; rw [if_pos (by exact hq)]; rfl
    | false => simp only; rw [if_neg (by show ¬ q e.key = true; rw [hq]; decide)]; exact ih
theorem run_findKeyQ {P : Program} {kt : TypeId} {d : TypeDesc} {key : Value} {q : Value → Bool} {es : List MapEntry} {w : World} (hk : P.underlying kt = some d) (h : ∀ p ∈ es.map entP, Instr.sameNow d key p.1 = some (q p.1)) : (Instr.findKey kt key es).run P w = .ok (findQ q (es.map entP) 0) w := by
  unfold Instr.findKey
  rw [run_bind (run_underlying hk w), findNow_Q es 0 h]; rfl
def updQ (q : Value → Bool) (kv : List (Value × Value)) (key val : Value) : List (Value × Value) := match findQ q kv 0 with
  | some (i, _) => kv.modify i fun _ => (key, val)
  | none => kv ++ [(key, val)]
theorem findQ_at {q : Value → Bool} : ∀ {kv : List (Value × Value)} {i j : Nat} {v : Value}, findQ q kv i = some (j, v) → ∃ p, i ≤ j ∧ kv[j - i]? = some p ∧ q p.1 = true
  | [], _, _, _, h => by cases h
  | p :: kv, i, j, v, h => by
    rw [findQ] at h
    split at h
    · simp only [Option.some.injEq, Prod.mk.injEq] at h
      obtain ⟨rfl, rfl⟩ := h
      exact ⟨p, Nat.le_refl _, by simp, by assumption⟩
    · obtain ⟨p', h1, h2, h3⟩ := findQ_at h
      exact ⟨p', by omega, by rw [show j - i = (j - (i + 1)) + 1 by omega, List.getElem?_cons_succ]; exact h2, h3⟩
section
variable {C : Ctx} {K : Env → List Blk → Prop} {e : Env} {L : List Blk} {dst : Option Tmp} {ty : TypeId} {pos : String} {after : Array Edge} {guard : Option (Nat × Bool)}
theorem T1.makeMap {t : TypeId} (k : ∀ b, K (putO e dst (.map (some b))) (MB b [] :: L)) : T1 C ⟨dst, .makeMap t none, ty, pos, after, guard⟩ K e L := by
  intro a w K' Q' hr hs hK
  unfold Oper.wp
  rw [hr.eval]
  have hrun : (execOp (ev C.n e) ⟨dst, .makeMap t none, ty, pos, after, guard⟩).run C.P w = .ok (.value (.map (some w.heap.size))) { w with heap := w.heap.push (.map #[] 0) } := rfl
  rw [hrun]
  exact hK _ _ _ _ (hr.put _ _) hs.newMap (k _)
theorem V1.lookup {t kt et : TypeId} {d : TypeDesc} {x y : Operand} {b : Nat} {kv : List (Value × Value)} {key z v : Value} {q : Value → Bool} (hT : C.P.underlying t = some (.map kt et)) (hz : ZeroIs C.P et z) (hk : C.P.underlying kt = some d) (hd : plainK d = true)
    (hx : ev C.n e x = .map (some b)) (hy : ev C.n e y = key) (hf : Find L (MB b kv)) (hq : ∀ p ∈ kv, Instr.sameNow d key p.1 = some (q p.1)) (hv : ((findQ q kv 0).map (·.2)).getD z = v) : V1 C ⟨dst, .lookup t x y false, ty, pos, after, guard⟩ e L v :=
  V1.run (s := Instr.lookup t (ev C.n e x) (ev C.n e y) false) rfl (fun w hs => by
    obtain ⟨es, clock, h1, h2⟩ := MB.inv (hs.inw _ hf.mem)
    rw [hx, hy]
    unfold Instr.lookup
    rw [run_bind (run_underlying hT w)]
    have hg : (getObj b).run C.P w = .ok (.map es clock) w := by simp [getObj, Sem.run, h1]
    have hfk := run_findKeyQ (P := C.P) (w := w) (es := es.toList) hk (by rw [h2]; exact hq)
    rw [h2] at hfk
    show (getObj b >>= _).run C.P w = _
    rw [run_bind hg]
    show (Instr.checkKey es.isEmpty 10000 kt key >>= _).run C.P w = _
    rw [run_bind (run_checkKeyP hk hd)]
    show (Instr.findKey kt key es.toList >>= _).run C.P w = _
    rw [run_bind hfk]
    subst hv
    cases hr : findQ q kv 0 with
    | some r => rfl
    | none =>
      show (zeroValue et >>= _).run C.P w = _
      rw [run_bind (run_zeroValue hz w)]; rfl)
theorem modify_pair (es : Array MapEntry) (i : Nat) (key val : Value) : (es.modify i fun e => { e with key, val := val }).toList.map entP = (es.toList.map entP).modify i fun _ => (key, val) := by
  apply List.ext_getElem?
  intro j
  rw [List.getElem?_map, Array.getElem?_toList, Array.getElem?_modify, List.getElem?_modify, List.getElem?_map, Array.getElem?_toList]
  by_cases h : i = j
  · subst h; simp only [if_true]; cases es[i]? <;> rfl
  · simp only [h, if_false]; cases es[j]? <;> rfl
theorem StampOk.push {es : List MapEntry} {clock : Nat} (h : StampOk es clock) (key val : Value) : StampOk (es ++ [{ key, val := val, born := clock }]) (clock + 1) := by
  refine ⟨fun x hx => ?_, ?_⟩
  · rcases List.mem_append.1 hx with hx | hx
    · exact Nat.lt_succ_of_lt (h.1 x hx)
    · rw [List.mem_singleton] at hx; subst hx; exact Nat.lt_succ_self _
  · rw [List.map_append]
    refine List.nodup_append.2 ⟨h.2, by simp, fun a ha b hb => ?_⟩
    simp only [List.map_cons, List.map_nil, List.mem_singleton] at hb
    subst hb
    obtain ⟨x, hx, rfl⟩ := List.mem_map.1 ha
    exact Nat.ne_of_lt (h.1 x hx)
theorem modify_born (es : Array MapEntry) (i : Nat) (key val : Value) : (es.modify i fun e => { e with key, val := val }).toList.map (·.born) = es.toList.map (·.born) := by
  apply List.ext_getElem?
  intro j
  rw [List.getElem?_map, Array.getElem?_toList, Array.getElem?_modify, List.getElem?_map, Array.getElem?_toList]
  by_cases h : i = j
  · subst h; simp only [if_true]; cases es[i]? <;> rfl
  · simp only [h, if_false]
theorem StampOk.modify {es : Array MapEntry} {clock : Nat} (h : StampOk es.toList clock) (i : Nat) (key val : Value) : StampOk (es.modify i fun e => { e with key, val := val }).toList clock := by
  have hb := modify_born es i key val
  refine ⟨fun x hx => ?_, by rw [hb]; exact h.2⟩
  have : x.born ∈ es.toList.map (·.born) := by rw [← hb]; exact List.mem_map_of_mem hx
  obtain ⟨y, hy, e⟩ := List.mem_map.1 this
  rw [← e]; exact h.1 y hy
theorem T1.mapUpdate {t kt et : TypeId} {d : TypeDesc} {m x y : Operand} {b : Nat} {kv kv' : List (Value × Value)} {key val : Value} {q : Value → Bool} {L' : List Blk} (hT : C.P.underlying t = some (.map kt et)) (hk : C.P.underlying kt = some d) (hd : plainK d = true)
    (hm : ev C.n e m = .map (some b)) (hx : ev C.n e x = key) (hy : ev C.n e y = val) (hq : ∀ p ∈ kv, Instr.sameNow d key p.1 = some (q p.1)) (hs : ∀ p ∈ kv, q p.1 = true → Instr.sameBits 10000 p.1 key = true) (hset : updQ q kv key val = kv')
    (hu : Sub L [MB b kv] L' [MB b kv']) (k : K (putO e dst undef) L') : T1 C ⟨dst, .mapUpdate t m x y, ty, pos, after, guard⟩ K e L := by
  intro a w K' Q' hr hst hK
  subst hset
  unfold Oper.wp
  rw [hr.eval]
  have hin := (hst.piece hu).2 (MB b kv) (by simp)
  obtain ⟨es, clock, h1, h2, h3⟩ := MB.invS hin
  have hlt : b < w.heap.size := (Array.getElem?_eq_some_iff.1 h1).1
  have hg : (getObj b).run C.P w = .ok (.map es clock) w := by simp [getObj, Sem.run, h1]
  have hfk := run_findKeyQ (P := C.P) (w := w) (es := es.toList) hk (by rw [h2]; exact hq)
  rw [h2] at hfk
  obtain ⟨es', clock', hpair, hstamp, hrun⟩ : ∃ (es' : Array MapEntry) (clock' : Nat), es'.toList.map entP = updQ q kv key val ∧ StampOk es'.toList clock' ∧ (Instr.mapUpdate t (.map (some b)) key val).run C.P w = .ok () { w with heap := w.heap.setIfInBounds b (.map es' clock') } := by
    have hset : ∀ o : Obj, (setObj b o).run C.P w = .ok () { w with heap := w.heap.setIfInBounds b o } := by intro o; simp [setObj, Sem.run, h1]
    cases hr : findQ q kv 0 with
    | none =>
      refine ⟨es.push { key, val := val, born := clock }, clock + 1, ?_, ?_, ?_⟩
      · unfold updQ; rw [hr, Array.toList_push, List.map_append, h2]; rfl
      · rw [Array.toList_push]; exact h3.push _ _
      · unfold Instr.mapUpdate
        rw [run_bind (run_underlying hT w)]
        show (getObj b >>= _).run C.P w = _
        rw [run_bind hg]
        show (Instr.checkKey false 10000 kt key >>= _).run C.P w = _
        rw [run_bind (run_checkKeyP hk hd)]
        show (Instr.findKey kt key es.toList >>= _).run C.P w = _
        rw [run_bind hfk, hr]
        exact hset _
    | some r =>
      obtain ⟨i, v⟩ := r
      obtain ⟨p, _, hp, hqp⟩ := findQ_at hr
      rw [Nat.sub_zero] at hp
      have hsb := hs p (List.mem_of_getElem? hp) hqp
      have hkey : ((es[i]?).map (·.key)).getD key = p.1 := by
        rw [← h2, List.getElem?_map, Array.getElem?_toList] at hp
        cases he : es[i]? with
        | none => rw [he] at hp; cases hp
        | some x => rw [he] at hp; simp only [Option.map_some, Option.some.injEq] at hp; subst hp; rfl
      refine ⟨es.modify i fun e => { e with key, val := val }, clock, ?_, ?_, ?_⟩
      · unfold updQ; rw [hr, modify_pair, h2]
      · exact h3.modify _ _ _
      · unfold Instr.mapUpdate
        rw [run_bind (run_underlying hT w)]
        show (getObj b >>= _).run C.P w = _
        rw [run_bind hg]
        show (Instr.checkKey false 10000 kt key >>= _).run C.P w = _
        rw [run_bind (run_checkKeyP hk hd)]
        show (Instr.findKey kt key es.toList >>= _).run C.P w = _
        rw [run_bind hfk, hr]
        show (Instr.keyThatStays (((es[i]?).map (·.key)).getD key) key >>= _).run C.P w = _
        rw [run_bind (show (Instr.keyThatStays (((es[i]?).map (·.key)).getD key) key).run C.P w = .ok key w from by rw [hkey]; unfold Instr.keyThatStays; rw [if_pos hsb]; rfl)]
        exact hset _
  have hexec : (execOp (ev C.n e) ⟨dst, .mapUpdate t m x y, ty, pos, after, guard⟩).run C.P w = .ok .skip { w with heap := w.heap.setIfInBounds b (.map es' clock') } := by
    show (do Instr.mapUpdate t (ev C.n e m) (ev C.n e x) (ev C.n e y); pure Next.skip : Sem Next).run C.P w = _
    rw [hm, hx, hy]; exact run_skip hrun
  rw [hexec]
  refine hK _ _ _ _ (hr.put _ _) (hst.turn (w' := { w with heap := w.heap.setIfInBounds b (.map es' clock') }) hu rfl rfl rfl rfl (by show (w.heap.setIfInBounds b _).size = _; simp) (fun c hc => ?_) ?_) k
  · have hc' : c ≠ b := hc
    show (w.heap.setIfInBounds b _)[c]? = _
    rw [Array.getElem?_setIfInBounds, if_neg (Ne.symm hc')]
  · exact MB.of (es := es') (clock := clock') (by show (w.heap.setIfInBounds b _)[b]? = _; rw [Array.getElem?_setIfInBounds, if_pos rfl, if_pos hlt]) hpair hstamp
end
end Go.Proofs.Ytijijaobialncaa.S
