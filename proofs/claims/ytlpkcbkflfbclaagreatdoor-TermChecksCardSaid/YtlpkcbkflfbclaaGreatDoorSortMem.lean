/- What the library's sort does to a row of one's own, in the terms of this claim's proofs. Holds for every program. -/
import Derived.Test.YtlpkcbkflfbclaaGreatDoorOps9
import Derived.Test.YtlpkcbkflfbclaaGreatDoorTmMem
import Derived.Shelf.SlSortCmp.WholeK
namespace Go.Proofs.YtlpkcbkflfbclaaGreatDoor.S
open Go.RowKit Go.Sort

/-- Reading in a later world, by that world alone. -/
theorem Src.rebase {P : Program} {w0 w : World} {G : List Blk} {k n : Nat} {v : Value} {vs : List Value} (h : Src ⟨P, w0, [], 0⟩ G k v n vs) (hs : St w0 [] G w) : ∀ C : Ctx, C.w0 = w → C.M = [] → ∀ L, Src C L k v n vs := by
  intro C h0 hm L
  cases h with
  | nil => exact .nil
  | odd => exact .odd
  | sl hr hl => exact .sl (RdN.old (by rw [h0]; exact hr.cells hs) (by rw [hm]; simp)) hl
  | str hk => exact .str hk
theorem RowR.rebase {w0 w : World} {Ps G : List Blk} {k n : Nat} {v : Value} {vs : List Value} (h : RowR w0 Ps k v n vs) (hi : Inc Ps G) (hs : St w0 [] G w) (P : Program) : RowR w [] k v n vs :=
  ⟨h.form, h.len, fun C h0 hm L _ => (h.src ⟨P, w0, [], 0⟩ rfl rfl G hi).rebase hs C h0 hm L⟩
theorem TmR.rebase {w0 w : World} {Ps G : List Blk} (hi : Inc Ps G) (hs : St w0 [] G w) (P : Program) {t : Tm} : ∀ {cs : List Value}, TmR w0 Ps t cs → TmR w [] t cs := by
  induction t using Tm.ind with
  | h k n ts ih =>
    intro cs h
    obtain ⟨a, c, vs, rfl, h1, h2, h3⟩ := h.inv
    refine TmR.mk (h1.rebase hi hs P) h2 ?_
    clear h1 h2 h
    generalize ts.length = m
    induction ts generalizing vs with
    | nil => rw [h3.nil_inv]; exact TmsR.nil
    | cons b bs ihb =>
      obtain ⟨cs, rest, rfl, h1, h2⟩ := h3.cons_inv
      exact TmsR.cons (ih b (by simp) h1) (ihb (fun x hx => ih x (by simp [hx])) _ h2)

/-! ### The sort's worlds -/
section
variable {α : Type} [Inhabited α] (enc : α → List Value) (k : Nat)
theorem swK_heap_other {w : World} {blk off m : Nat} {d : Array α} {os : Array Obj} {b : Nat} (hb : b < w.heap.size) (hne : b ≠ blk) : (sortWorldK enc k w blk off m d os).heap[b]? = w.heap[b]? := by
  have hm : ∀ f, ((mapBlock (Sort.ahead w m) blk f).heap ++ os)[b]? = w.heap[b]? := fun f => by
    show ((w.heap.modify blk _) ++ os)[b]? = _
    rw [Array.getElem?_append, if_pos (by simpa using hb), Array.getElem?_modify, if_neg (Ne.symm hne)]
  exact hm _
theorem swK_heap_row {w : World} {blk off m : Nat} {d : Array α} {os : Array Obj} {c : Array Value} {E : TypeId} {fr : Nat × Nat} (hb : w.heap[blk]? = some (.cells c E fr)) : (sortWorldK enc k w blk off m d os).heap[blk]? = some (.cells (putCells id off (flatK enc k d) c) E fr) := by
  have hl : blk < w.heap.size := (Array.getElem?_eq_some_iff.1 hb).1
  show ((w.heap.modify blk _) ++ os)[blk]? = _
  rw [Array.getElem?_append, if_pos (by simpa using hl), Array.getElem?_modify, if_pos rfl, hb]; rfl
theorem swK_size {w : World} {blk off m : Nat} {d : Array α} {os : Array Obj} : (sortWorldK enc k w blk off m d os).heap.size = w.heap.size + os.size := by
  show ((w.heap.modify blk _) ++ os).size = _
  simp
/-- The row's block apart: what else is known stays. -/
theorem St.sorting {w0 w : World} {G : List Blk} {b off size : Nat} {tg : Option TypeId} {cells : List Value} (h : St w0 [] (⟨⟨b, tg⟩, off, cells, size⟩ :: G) w) (o m : Nat) (d : Array α) (os : Array Obj) : St w0 [] G (sortWorldK enc k w b o m d os) := by
  have hd := h.distinct
  rw [List.map_cons, List.nodup_cons] at hd
  have hbo : w0.heap.size ≤ b := by
    rcases Nat.lt_or_ge b w0.heap.size with hl | hl
    · exact absurd (h.may _ (List.mem_cons_self ..) hl) (by simp)
    · exact hl
  refine ⟨h.os, h.tape, h.output, by rw [swK_size]; have := h.size; omega, ?_, hd.2, ?_, fun B hB hlt => h.may B (List.mem_cons_of_mem _ hB) hlt, Nat.le_trans h.drawn (Nat.le_add_right _ _)⟩
  · intro x hx hm
    have := h.size
    rw [swK_heap_other enc k (by omega) (by omega)]; exact h.old x hx hm
  · intro B hB
    have hin := h.inw B (List.mem_cons_of_mem _ hB)
    exact hin.of_same (swK_heap_other enc k hin.lt (fun he => hd.1 (by have := List.mem_map_of_mem (f := Blk.id) hB; rwa [he] at this)))
theorem putCells_get {c : Array Value} {off : Nat} {F : Array Value} (i : Nat) : (putCells id off F c)[i]? = if off ≤ i ∧ i < off + F.size ∧ i < c.size then some F[i - off]! else c[i]? := by
  unfold putCells
  rw [Array.getElem?_mapIdx]
  by_cases hc : i < c.size
  · rw [Array.getElem?_eq_getElem hc, Option.map_some]
    by_cases h1 : off ≤ i ∧ i < off + F.size
    · rw [if_pos h1, if_pos ⟨h1.1, h1.2, hc⟩]; rfl
    · rw [if_neg h1, if_neg (fun h => h1 ⟨h.1, h.2.1⟩)]
  · rw [Array.getElem?_eq_none (by omega), if_neg (fun h => hc h.2.2)]; rfl
/-- .. and the row's block, as the sort leaves it. -/
theorem St.sorted {w0 w : World} {G : List Blk} {b off size : Nat} {tg : Option TypeId} {cells ws : List Value} (h : St w0 [] (⟨⟨b, tg⟩, off, cells, size⟩ :: G) w) (m : Nat) (d : Array α) (os : Array Obj) (hf : (flatK enc k d).toList = ws) (hl : ws.length = cells.length) : St w0 [] (⟨⟨b, tg⟩, off, ws, size⟩ :: G) (sortWorldK enc k w b off m d os) := by
  have h1 := h.sorting enc k off m d os
  have hd := h.distinct
  rw [List.map_cons, List.nodup_cons] at hd
  refine ⟨h1.os, h1.tape, h1.output, h1.size, h1.old, by rw [List.map_cons, List.nodup_cons]; exact hd, ?_, ?_, h1.drawn⟩
  · intro B hB
    rcases List.mem_cons.1 hB with rfl | hB
    · have hin := h.inw _ (List.mem_cons_self ..)
      obtain ⟨c, E, lo, hi, hh, hsz, hk, hfr⟩ := hin.here
      have hroom : off + cells.length ≤ size := hin.room
      have hsz' : c.size = size := hsz
      refine Blk.In.ofCells (by show off + ws.length ≤ size; omega) ⟨_, E, lo, hi, swK_heap_row enc k hh, by show (putCells id off (flatK enc k d) c).size = size; unfold putCells; rw [Array.size_mapIdx]; exact hsz', fun i hi' => ?_, hfr⟩
      show (putCells id off (flatK enc k d) c)[off + i]? = ws[i]?
      have hi2 : i < ws.length := hi'
      have hfs : (flatK enc k d).size = ws.length := by rw [← hf, Array.length_toList]
      rw [putCells_get, if_pos ⟨by omega, by omega, by omega⟩, Nat.add_sub_cancel_left, ← hf, Array.getElem?_toList, Array.getElem?_eq_getElem (by omega), getElem!_pos _ i (by omega)]
    · exact h1.inw B hB
  · intro B hB hlt
    rcases List.mem_cons.1 hB with rfl | hB
    · exact h.may ⟨⟨b, tg⟩, off, cells, size⟩ (List.mem_cons_self ..) hlt
    · exact h1.may B hB hlt
theorem holds_of_st {w0 w : World} {G : List Blk} {b off size : Nat} {tg : Option TypeId} {cells : List Value} (h : St w0 [] (⟨⟨b, tg⟩, off, cells, size⟩ :: G) w) (d : Array α) (hf : (flatK enc k d).toList = cells) : HoldsK enc k w b off d ∧ b < w.heap.size := by
  have hin := h.inw _ (List.mem_cons_self ..)
  refine ⟨fun j hj => ?_, hin.lt⟩
  have hfs : (flatK enc k d).size = cells.length := by rw [← hf, Array.length_toList]
  have hroom : off + cells.length ≤ size := hin.room
  refine ⟨?_, frozen_of_in hin (by show off + j < size; omega)⟩
  have := hin.cell (o := off + j) (v := (flatK enc k d)[j]!) (by
    show (bif Nat.ble off (off + j) then cells[off + j - off]? else none) = _
    rw [Nat.ble_eq_true_of_le (Nat.le_add_right off j), Nat.add_sub_cancel_left, cond_true, ← hf, Array.getElem?_toList, Array.getElem?_eq_getElem (by omega), getElem!_pos _ j (by omega)])
  exact this
theorem flatten_get {l : List (List Value)} {k : Nat} (h : ∀ x ∈ l, x.length = k) {i : Nat} {x : List Value} (hx : l[i / k]? = some x) (hk : 0 < k) : l.flatten[i]? = x[i % k]? := by
  have := flatten_drop l (i / k) h x hx
  rw [← this, List.getElem?_take, if_pos (Nat.mod_lt _ hk), List.getElem?_drop]
  congr 1
  have := Nat.div_add_mod i k
  rw [Nat.mul_comm] at this; omega
theorem flatK_list (hk : ∀ x, (enc x).length = k) (h0 : 0 < k) (d : Array α) : (flatK enc k d).toList = (d.toList.map enc).flatten := by
  apply List.ext_getElem?
  intro i
  rw [Array.getElem?_toList]
  have hall : ∀ x ∈ d.toList.map enc, x.length = k := fun x hx => by obtain ⟨y, _, rfl⟩ := List.mem_map.1 hx; exact hk y
  by_cases hi : i < d.size * k
  · have hq : i / k < d.size := Nat.div_lt_of_lt_mul (by rwa [Nat.mul_comm] at hi)
    have hx : (d.toList.map enc)[i / k]? = some (enc d[i / k]) := by rw [List.getElem?_map, Array.getElem?_toList, Array.getElem?_eq_getElem hq]; rfl
    rw [flatten_get hall hx h0, Array.getElem?_eq_getElem (by rw [size_flatK]; exact hi)]
    have h2 := get_flatK enc k d i hi
    rw [getElem!_pos (flatK enc k d) i (by rw [size_flatK]; exact hi), getElem!_pos d (i / k) hq] at h2
    have hr : i % k < (enc d[i / k]).length := by rw [hk]; exact Nat.mod_lt _ h0
    rw [h2, getElem!_pos (enc d[i / k]) (i % k) hr, List.getElem?_eq_getElem hr]
  · have hlen : ∀ (l : List (List Value)), (∀ x ∈ l, x.length = k) → l.flatten.length = l.length * k := by
      intro l
      induction l with
      | nil => intro _; simp
      | cons x l ih => intro hh; simp only [List.flatten_cons, List.length_append, List.length_cons, hh x (by simp), ih (fun y hy => hh y (by simp [hy])), Nat.add_mul]; omega
    rw [Array.getElem?_eq_none (by rw [size_flatK]; omega), List.getElem?_eq_none]
    rw [hlen _ hall, List.length_map, Array.length_toList]; omega
end
/-- A call that leaves memory as it was, told from its own world: it draws, and lays blocks. -/
theorem grown_of_st {w w' : World} (h : St w [] [] w') : ∃ q os, w' = Sort.grow (w.drewN q) os := by
  refine ⟨w'.drawn - w.drawn, w'.heap.extract w.heap.size w'.heap.size, ?_⟩
  have hheap : w'.heap = w.heap ++ w'.heap.extract w.heap.size w'.heap.size := by
    apply Array.ext_getElem?
    intro i
    rw [Array.getElem?_append]
    split
    · rename_i hi; exact h.old i hi (by simp)
    · rename_i hi
      rw [Array.getElem?_extract]
      have hs := h.size
      split
      · congr 1; omega
      · rw [Array.getElem?_eq_none (by omega)]
  have hdr := h.drawn
  obtain ⟨h', t', d', o', u'⟩ := w'
  have e1 := h.os; have e2 := h.tape; have e3 := h.output
  simp only at e1 e2 e3 hheap hdr
  subst e1; subst e2; subst e3
  unfold Sort.grow World.drewN
  simp only
  rw [← hheap, Nat.add_sub_cancel' hdr]
/-- Terms of a row, one by one. -/
theorem TmsR.items {w0 : World} {Ps : List Blk} : ∀ {ts : List Tm} {vs : List Value}, TmsR w0 Ps ts vs → ∃ es : List { p : Tm × List Value // TmR w0 Ps p.1 p.2 }, es.map (·.1.1) = ts ∧ (es.map (·.1.2)).flatten = vs
  | [], vs, h => ⟨[], rfl, h.nil_inv.symm⟩
  | t :: ts, vs, h => by
    obtain ⟨cs, rest, rfl, h1, h2⟩ := h.cons_inv
    obtain ⟨es, e1, e2⟩ := h2.items
    exact ⟨⟨(t, cs), h1⟩ :: es, by simp [e1], by simp [e2]⟩
theorem TmsR.ofItems {w0 : World} {Ps : List Blk} : ∀ (es : List { p : Tm × List Value // TmR w0 Ps p.1 p.2 }), TmsR w0 Ps (es.map (·.1.1)) (es.map (·.1.2)).flatten
  | [] => TmsR.nil
  | e :: es => by rw [List.map_cons, List.map_cons, List.flatten_cons]; exact TmsR.cons e.2 (TmsR.ofItems es)
end Go.Proofs.YtlpkcbkflfbclaaGreatDoor.S
