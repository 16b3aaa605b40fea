/- Slices of elements of several cells put together. Holds for every program. -/
import Derived.Test.YtlpkcbkflfbclaaDoorOpsF
namespace Go.Proofs.YtlpkcbkflfbclaaDoor.S
open Go.RowKit

section
variable {C : Ctx} {K : Env → List Blk → Prop} {e : Env} {L : List Blk} {dst : Option Tmp} {ty : TypeId} {pos : String} {after : Array Edge} {guard : Option (Nat × Bool)}
/-- A function's value that holds one variable. -/
theorem V1.makeFuncC {fn : Go.Fn} {x : Operand} {v : Value} (hx : ev C.n e x = v) : V1 C ⟨dst, .makeFunc fn #[] #[x], ty, pos, after, guard⟩ e L (.func fn #[] #[v]) := by
  subst hx
  have := V1.makeFunc (C := C) (e := e) (L := L) (dst := dst) (ty := ty) (pos := pos) (after := after) (guard := guard) (fn := fn) (first := #[]) (cap := #[x])
  simpa using this
/-- A slice of one element of so many cells. -/
theorem T1.buildOne {t el : TypeId} {k : Nat} {x : Operand} {cs : List Value} {z : Value} (hT : C.P.underlying t = some (.slice el)) (hk : SizeIs C.P el k) (hz : ZeroIs C.P el z) (h16 : k ≤ 16777216) (hx : ev C.n e x = .agg cs.toArray) (hl : cs.length = k)
    (kk : ∀ b, K (putO e dst (.slice (some ⟨b, 0, none⟩) 1 1)) (⟨⟨b, some el⟩, 0, cs, k⟩ :: L)) : T1 C ⟨dst, .buildSlice t 1 (List.toArray [(0, x)]), ty, pos, after, guard⟩ K e L := by
  refine T1.buildSliceG (tg := some el) (vs := [.agg cs.toArray]) hT hk hz (by omega) (by simp [hx]) rfl (fun v hv => by rw [List.mem_singleton] at hv; subst hv; simpa [Value.cells] using hl) (.inr rfl) (fun b => ?_)
  have := kk b
  simpa [Value.cells] using this
/-- A slice of two. -/
theorem T1.buildTwo {t el : TypeId} {k : Nat} {x y : Operand} {cs ds : List Value} {z : Value} (hT : C.P.underlying t = some (.slice el)) (hk : SizeIs C.P el k) (hz : ZeroIs C.P el z) (h16 : 2 * k ≤ 16777216) (hx : ev C.n e x = .agg cs.toArray) (hy : ev C.n e y = .agg ds.toArray) (hl : cs.length = k) (hl2 : ds.length = k)
    (kk : ∀ b, K (putO e dst (.slice (some ⟨b, 0, none⟩) 2 2)) (⟨⟨b, some el⟩, 0, cs ++ ds, 2 * k⟩ :: L)) : T1 C ⟨dst, .buildSlice t 2 (List.toArray [(0, x), (1, y)]), ty, pos, after, guard⟩ K e L := by
  refine T1.buildSliceG (tg := some el) (vs := [.agg cs.toArray, .agg ds.toArray]) hT hk hz h16 (by simp [hx, hy]) rfl (fun v hv => by simp at hv; rcases hv with rfl | rfl <;> simpa [Value.cells]) (.inr rfl) (fun b => ?_)
  have := kk b
  simpa [Value.cells] using this
/-- Some elements of several cells each. -/
theorem T1.buildMany {t el : TypeId} {k n : Nat} {ps : List (Nat × Operand)} {os : List Operand} {vss : List (List Value)} {z : Value} (hT : C.P.underlying t = some (.slice el)) (hk : SizeIs C.P el k) (hz : ZeroIs C.P el z) (h16 : n * k ≤ 16777216) (hps : ps = (os.zipIdx 0).map (fun p => (p.2, p.1))) (hev : Evs C.n e os (vss.map fun l => .agg l.toArray)) (hn : vss.length = n) (hl : ∀ l ∈ vss, l.length = k)
    (kk : ∀ b, K (putO e dst (.slice (some ⟨b, 0, none⟩) n n)) (⟨⟨b, some el⟩, 0, vss.flatten, n * k⟩ :: L)) : T1 C ⟨dst, .buildSlice t n ps.toArray, ty, pos, after, guard⟩ K e L := by
  subst hps
  refine T1.buildSliceG (tg := some el) hT hk hz h16 (parts_eq hev) (by simpa using hn) (fun v hv => by obtain ⟨l, hl', rfl⟩ := List.mem_map.1 hv; simpa [Value.cells] using hl l hl') (.inr rfl) (fun b => ?_)
  have : ((vss.map fun l => Value.agg l.toArray).map (fun v => v.cells.toList)).flatten = vss.flatten := by
    rw [List.map_map]; congr 1
    conv => rhs; rw [← List.map_id vss]
    exact List.map_congr_left fun l _ => by simp [Value.cells]
  rw [this]
  exact kk b
/-- A piece out of the midst of a block, by what lies ahead of it. -/
theorem RdN.mid2 {b off o size : Nat} {tg : Option TypeId} {pre cs post : List Value} (hf : Find L ⟨⟨b, tg⟩, off, pre ++ (cs ++ post), size⟩) (ho : o = off + pre.length) : RdN C L ⟨b, o, none⟩ cs := by
  subst ho
  refine RdN.own hf fun i v hv => ?_
  show (bif Nat.ble off (off + pre.length + i) then (pre ++ (cs ++ post))[off + pre.length + i - off]? else none) = some v
  rw [Nat.ble_eq_true_of_le (by omega), cond_true, show off + pre.length + i - off = pre.length + i by omega, List.getElem?_append_right (by omega), Nat.add_sub_cancel_left, List.getElem?_append_left (List.getElem?_eq_some_iff.1 hv).1]
  exact hv
theorem Rd.mid2 {b off o size i : Nat} {tg : Option TypeId} {pre cs post : List Value} {v : Value} (hf : Find L ⟨⟨b, tg⟩, off, pre ++ (cs ++ post), size⟩) (hv : cs[i]? = some v) (ho : o = off + pre.length + i) : Rd C L ⟨b, o, none⟩ v := by
  subst ho
  exact (RdN.mid2 (C := C) hf rfl) i v hv
end
end Go.Proofs.YtlpkcbkflfbclaaDoor.S
