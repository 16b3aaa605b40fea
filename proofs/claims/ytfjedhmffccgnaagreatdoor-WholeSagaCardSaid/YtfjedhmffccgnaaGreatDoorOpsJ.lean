/- 'clear' of the end of a slice of one's own; a row of one's own known no further. Holds for every program. -/
import Derived.Test.YtfjedhmffccgnaaGreatDoorOps9
namespace Go.Proofs.YtfjedhmffccgnaaGreatDoor.S
open Go.RowKit
theorem Blk.In.front {b off size l : Nat} {tg : Option TypeId} {cells : List Value} {w : World} (h : Blk.In ⟨⟨b, tg⟩, off, cells, size⟩ w) : Blk.In ⟨⟨b, tg⟩, off, cells.take l, size⟩ w := by
 obtain ⟨c, E, lo, hi, hh, hsz, hk, hfr⟩ := h.here
 have hr : off + cells.length ≤ size := h.room
 have hl : (cells.take l).length ≤ cells.length := by rw [List.length_take]; omega
 refine Blk.In.ofCells (by show off + (cells.take l).length ≤ size; omega) ⟨c, E, lo, hi, hh, hsz, fun i hi' => ?_, hfr⟩
 have hi2 : i < (cells.take l).length := hi'
 have hi3 : i < l := by rw [List.length_take] at hi2; omega
 rw [hk i (by show i < cells.length; omega)]
 show cells[i]? = (cells.take l)[i]?
 rw [List.getElem?_take, if_pos hi3]
theorem putN_front {cells vs : List Value} {k : Nat} (h : k + vs.length ≤ cells.length) : (putN cells k vs).take k = cells.take k := by
 unfold putN
 rw [List.append_assoc, List.take_append_of_le_length (by rw [List.length_take]; omega), List.take_take, Nat.min_self]
section
variable {C : Ctx} {K : Env → List Blk → Prop} {e : Env} {L : List Blk} {dst : Option Tmp} {ty : TypeId} {pos : String} {after : Array Edge} {guard : Option (Nat × Bool)}
theorem zeroCells_one {z : Array Value} (h1 : ∀ u ∈ z.toList, one u = true) (n : Nat) : (∀ u ∈ (Builtin.zeroCells z n).toList, one u = true) ∧ (Builtin.zeroCells z n).size = n * z.size := by
 refine ⟨fun u hu => ?_, by unfold Builtin.zeroCells; simp⟩
 unfold Builtin.zeroCells at hu
 rw [Array.mem_toList_iff, Array.mem_map] at hu
 obtain ⟨i, hi, rfl⟩ := hu
 have hi' : i < n * z.size := by simpa using hi
 have hpos : 0 < z.size := by
  rcases Nat.eq_zero_or_pos z.size with h | h
  · rw [h, Nat.mul_zero] at hi'; omega
  · exact h
 rw [getElem!_pos z (i % z.size) (Nat.mod_lt _ hpos)]
 exact h1 _ (by rw [Array.mem_toList_iff]; exact Array.getElem_mem _)
theorem T1.clearTail {x : Operand} {t el : TypeId} {b off size len cap m o : Nat} {tg : Option TypeId} {cells : List Value} {L' : List Blk} {z : Value} (hT : C.P.underlying t = some (.slice el)) (hz : ZeroIs C.P el z) (h1 : ∀ u ∈ z.cells.toList, one u = true)
 (hx : ev C.n e x = .slice (some ⟨b, o, none⟩) len cap) (ho : o = off + m) (hn : 0 < len) (hl : m + len * z.cells.size = cells.length) (hu : Sub L [⟨⟨b, tg⟩, off, cells, size⟩] L' [⟨⟨b, tg⟩, off, cells.take m, size⟩]) (k : K (putO e dst (.tuple #[])) L') :
 T1 C ⟨dst, .call ⟨.builtin .clear, (List.toArray [x]), (List.toArray [t])⟩, ty, pos, after, guard⟩ K e L := by
 intro a w K' Q' hr hs hK
 subst ho
 unfold Oper.wp
 rw [hr.eval]
 have hpc := hs.piece hu
 have hin := hpc.2 ⟨⟨b, tg⟩, off, cells, size⟩ (by simp)
 obtain ⟨hz1, hz2⟩ := zeroCells_one h1 len
 have hexec : execOp (ev C.n e) ⟨dst, .call ⟨.builtin .clear, (List.toArray [x]), (List.toArray [t])⟩, ty, pos, after, guard⟩ = (do pure (Next.value (← Builtin.clear_ #[t] ty #[.slice (some ⟨b, off + m, none⟩) len cap])) : Sem Next) := by
  show Go.builtin .clear #[t] ty ((List.toArray [x]).map fun | .const _ => true | _ => false) ((List.toArray [x]).map (ev C.n e)) = _
  rw [show (List.toArray [x]).map (ev C.n e) = #[.slice (some ⟨b, off + m, none⟩) len cap] from by rw [List.map_toArray]; simp [hx]]
  rfl
 rw [hexec]
 obtain ⟨c, E, lo, hi, hh, hsz, _, hf⟩ := hin.here
 have hroom : off + cells.length ≤ size := hin.room
 have hsz' : c.size = size := hsz
 have hsc := run_storeCells (P := C.P) (Builtin.zeroCells z.cells len).toList (off + m) 0 w c E lo hi hh (by rw [Array.length_toList, hz2]; omega) (by intro k hk'; have hf' : lo = hi ∨ size ≤ lo := hf.1; omega) hz1
 have hrun : (Builtin.clear_ #[t] ty #[.slice (some ⟨b, off + m, none⟩) len cap]).run C.P w = .ok (.tuple #[]) (setCellsAt w b (off + m) (Builtin.zeroCells z.cells len).toList) := by
  unfold Builtin.clear_
  simp only [List.getElem?_toArray, List.getElem?_cons_zero]
  rw [run_bind (run_underlying hT w)]
  match len, hn with
  | len + 1, _ =>
   simp only
   rw [run_bind (run_zeroValue hz w), run_bind hsc]; rfl
 rw [run_value hrun]
 obtain ⟨f1, f2, f3, f4, f5⟩ := setCellsAt_fields b (Builtin.zeroCells z.cells len).toList (off + m) w
 refine hK _ _ _ _ (hr.put _ _) (hs.turn hu rfl f1 f2 f3 f4 f5 ?_) k
 have h3 := In_setCellsAt hin (o := off + m) (vs := (Builtin.zeroCells z.cells len).toList) (by show off ≤ off + m; omega) (by rw [Array.length_toList, hz2]; show off + m + len * z.cells.size ≤ off + cells.length; omega)
 have h4 := Blk.In.front (l := m) h3
 rw [show off + m - off = m by omega, putN_front (by rw [Array.length_toList, hz2]; show m + len * z.cells.size ≤ cells.length; omega)] at h4
 exact h4
end
end Go.Proofs.YtfjedhmffccgnaaGreatDoor.S
