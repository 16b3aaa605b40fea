/- Rows of elements of several cells: one taken out of the row's midst. Holds for every program. -/
import Derived.Test.YtfjedhmffccgnaaGreatDoorOpsP
import Derived.Test.YtfjedhmffccgnaaGreatDoorOpsJ
namespace Go.Proofs.YtfjedhmffccgnaaGreatDoor.S
open Go.RowKit
section
variable {C : Ctx} {K : Env → List Blk → Prop} {e : Env} {L : List Blk} {dst : Option Tmp} {ty : TypeId} {pos : String} {after : Array Edge} {guard : Option (Nat × Bool)}
theorem T1.appendSelfK {x y : Operand} {t yt el : TypeId} {k n bytes b off size cap i : Nat} {tg : Option TypeId} {v : Value} {xs new : List Value} {L' : List Blk} (hT : C.P.underlying t = some (.slice el)) (hY : Kd C.P yt)
 (hk : SizeIs C.P el k) (hb : BytesIs C.P el bytes) (hx : ev C.n e x = .slice (some ⟨b, off, none⟩) i cap) (hyv : ev C.n e y = v) (hsrc : Src C L k v n new) (hone : ∀ u ∈ new, one u = true)
 (hle : i + n ≤ cap) (hcap : off + cap * k ≤ size) (hil : (i + n) * k ≤ xs.length) (hu : Sub L [⟨⟨b, tg⟩, off, xs, size⟩] L' [⟨⟨b, tg⟩, off, putN xs (i * k) new, size⟩])
 (kk : K (putO e dst (.slice (some ⟨b, off, none⟩) (i + n) cap)) L') : T1 C ⟨dst, .call ⟨.builtin .append, (List.toArray [x, y]), (List.toArray [t, yt])⟩, ty, pos, after, guard⟩ K e L := by
 intro a w K' Q' hr hs hK
 unfold Oper.wp
 rw [hr.eval]
 have hnl := hsrc.len
 obtain ⟨iel, hiel, hibytes⟩ := Option.map_eq_some_iff.1 hb
 have hik : iel.size = k := by have := hk; unfold SizeIs at this; rw [hiel] at this; simpa using this
 have hexec : execOp (ev C.n e) ⟨dst, .call ⟨.builtin .append, (List.toArray [x, y]), (List.toArray [t, yt])⟩, ty, pos, after, guard⟩ = (do pure (Next.value (← Builtin.append_ #[t, yt] ty #[.slice (some ⟨b, off, none⟩) i cap, v])) : Sem Next) := by
  show Go.builtin .append #[t, yt] ty ((List.toArray [x, y]).map fun | .const _ => true | _ => false) ((List.toArray [x, y]).map (ev C.n e)) = _
  rw [show (List.toArray [x, y]).map (ev C.n e) = #[.slice (some ⟨b, off, none⟩) i cap, v] from by rw [List.map_toArray]; simp [hx, hyv]]
  rfl
 rw [hexec]
 have hin := (hs.piece hu).2 ⟨⟨b, tg⟩, off, xs, size⟩ (by simp)
 obtain ⟨c, E, lo, hi, hh, hsz, _, hf⟩ := hin.here
 have hsz' : c.size = size := hsz
 have hik2 : (i + n) * k = i * k + n * k := Nat.add_mul ..
 have hcap2 : (i + n) * k ≤ cap * k := Nat.mul_le_mul_right _ hle
 have hst := run_storeCells (P := C.P) new (off + i * k) 0 w c E lo hi hh (by rw [hnl, hsz']; omega) (by intro q hq; have hf' : lo = hi ∨ size ≤ lo := hf.1; omega) hone
 rw [run_value (run_append_room' hT hY hiel (run_lenOf hsrc w) (by rw [hik]; exact run_firstCells hsrc hs) hle (by rw [hik]; exact hst))]
 obtain ⟨f1, f2, f3, f4, f5⟩ := setCellsAt_fields b new (off + i * k + 0) w
 refine hK _ _ _ _ (hr.put _ _) (hs.turn hu rfl f1 f2 f3 f4 f5 ?_) kk
 have := In_setCellsAt hin (o := off + i * k + 0) (vs := new) (by show off ≤ _; omega) (by show off + i * k + 0 + new.length ≤ off + xs.length; omega)
 simpa using this
theorem V1.slice3k {t el : TypeId} {x u y z : Operand} {kz b o len cap i j n : Nat} {k0 k1 k2 : IntKind} (hT : C.P.underlying t = some (.slice el)) (hk : SizeIs C.P el kz) (hx : ev C.n e x = .slice (some ⟨b, o, none⟩) len cap) (hw : ev C.n e u = .int k0 (i : Int)) (hy : ev C.n e y = .int k1 (j : Int)) (hz : ev C.n e z = .int k2 (n : Int)) (h1 : i ≤ j) (h2 : j ≤ n) (h : n ≤ cap) :
 V1 C ⟨dst, .slice t x (some u) (some y) (some z), ty, pos, after, guard⟩ e L (.slice (if n = i then some ⟨b, o, none⟩ else some ⟨b, o + i * kz, none⟩) (j - i) (n - i)) :=
 V1.run (s := Instr.sliceAt t (ev C.n e x) (some (ev C.n e u)) (some (ev C.n e y)) (some (ev C.n e z))) rfl (fun w _ => by
  rw [hx, hy, hz, hw]
  unfold Instr.sliceAt
  rw [run_bind (run_underlying hT w)]
  show (Instr.slice t (.slice (some ⟨b, o, none⟩) len cap) (some (.int k0 (i : Int))) (some (.int k1 (j : Int))) (some (.int k2 (n : Int)))).run C.P w = _
  unfold Instr.slice
  rw [run_bind (run_underlying hT w)]
  show (do let (l, h, m) ← Instr.sliceBounds true len cap (some (.int k0 (i : Int))) (some (.int k1 (j : Int))) (some (.int k2 (n : Int))); let size ← sizeOf el; pure (Value.slice (if m = l then some ⟨b, o, none⟩ else (some (⟨b, o, none⟩ : Addr)).map (·.add (l * size))) (h - l) (m - l)) : Sem Value).run C.P w = _
  have hb : (Instr.sliceBounds true len cap (some (.int k0 (i : Int))) (some (.int k1 (j : Int))) (some (.int k2 (n : Int)))).run C.P w = .ok (i, j, n) w := by
   unfold Instr.sliceBounds
   show (do let m ← Instr.sliceBound (.int k2 (n : Int)) cap .slice3Acap; let h ← Instr.sliceBound (.int k1 (j : Int)) m .slice3B; let l ← Instr.sliceBound (.int k0 (i : Int)) h .slice3C; pure (l, h, m) : Sem (Nat × Nat × Nat)).run C.P w = _
   rw [run_bind (run_sliceBound zw zw w), run_bind (run_sliceBound zw zw w), run_bind (run_sliceBound zw zw w)]
   rfl
  rw [run_bind hb]
  simp only
  rw [run_bind (run_sizeOf hk w)]
  simp [pure, Sem.run, addr_add])
end
theorem Src.tailK {C : Ctx} {L : List Blk} {b off size cap i r c k : Nat} {tg : Option TypeId} {xs : List Value} (hf : Find L ⟨⟨b, tg⟩, off, xs, size⟩) (hl : xs.length = (i + r) * k) (hc : i + r ≤ cap) : Src C L k (.slice (some ⟨b, if cap = i then off else off + i * k, none⟩) r c) r (xs.drop (i * k)) := by
 by_cases h : cap = i
 ·
  obtain rfl : r = 0 := by omega
  rw [List.drop_eq_nil_of_le (by rw [hl]; exact Nat.le_refl _)]
  exact .odd
 ·
  rw [if_neg h]
  refine .sl (fun j v hv => ?_) (by rw [List.length_drop, hl, Nat.add_mul]; omega)
  rw [List.getElem?_drop] at hv
  have := RdN.at0 (C := C) hf (i * k + j) v hv
  show Rd C L ⟨b, off + i * k + j, none⟩ v
  rw [show off + i * k + j = off + (i * k + j) by omega]; exact this
section
variable {C : Ctx} {e : Env} {L : List Blk} {dst : Option Tmp} {ty : TypeId} {pos : String} {after : Array Edge} {guard : Option (Nat × Bool)} {t el : TypeId} {x : Operand} {lo hi : Option Operand} {b o len cap kz : Nat}
theorem V1.sliceAnyR (l h r c : Nat) (hT : C.P.underlying t = some (.slice el)) (hk : SizeIs C.P el kz) (hx : ev C.n e x = .slice (some ⟨b, o, none⟩) len cap) (hl : bd C.n e lo 0 = some (l : Int)) (hh : bd C.n e hi len = some (h : Int)) (h1 : l ≤ h) (h2 : h ≤ cap) (hr : h - l = r) (hc : cap - l = c) :
 V1 C ⟨dst, .slice t x lo hi none, ty, pos, after, guard⟩ e L (.slice (some ⟨b, if cap = l then o else o + l * kz, none⟩) r c) := by
 subst hr; subst hc; exact V1.sliceAny l h hT hk hx hl hh h1 h2
theorem V1.sliceKR (l h r c : Nat) (hT : C.P.underlying t = some (.slice el)) (hk : SizeIs C.P el kz) (hx : ev C.n e x = .slice (some ⟨b, o, none⟩) len cap) (hl : bd C.n e lo 0 = some (l : Int)) (hh : bd C.n e hi len = some (h : Int)) (h1 : l ≤ h) (h2 : h ≤ cap) (h3 : l < cap) (hr : h - l = r) (hc : cap - l = c) :
 V1 C ⟨dst, .slice t x lo hi none, ty, pos, after, guard⟩ e L (.slice (some ⟨b, o + l * kz, none⟩) r c) := by
 subst hr; subst hc; exact V1.sliceK l h hT hk hx hl hh h1 h2 h3
end
theorem RdN.preK {C : Ctx} {L : List Blk} {a : Addr} {vs : List Value} (h : RdN C L a vs) (m : Nat) : RdN C L a (vs.take m) := fun i v hv => by
 rw [List.getElem?_take] at hv
 split at hv
 · exact h i v hv
 · cases hv
theorem RdN.dropK {C : Ctx} {L : List Blk} {b off o size : Nat} {tg : Option TypeId} {vs : List Value} (hf : Find L ⟨⟨b, tg⟩, off, vs, size⟩) : RdN C L ⟨b, off + o, none⟩ (vs.drop o) := RdN.own hf fun i v hv => by
 rw [List.getElem?_drop] at hv
 show (bif Nat.ble off (off + o + i) then vs[off + o + i - off]? else none) = some v
 rw [Nat.ble_eq_true_of_le zw, cond_true, show off + o + i - off = o + i by omega]; exact hv
theorem ins_placeK {vs ct : List Value} {i k : Nat} (hi : i * k + k ≤ vs.length) (hc : ct.length = k) : putN (vs.take (i * k + k) ++ vs.drop (i * k)) (i * k) ct = vs.take (i * k) ++ (ct ++ vs.drop (i * k)) := by
 unfold putN
 rw [List.append_assoc, List.take_append_of_le_length (by rw [List.length_take]; omega), List.take_take, Nat.min_eq_left (by omega)]
 congr 2
 rw [hc]; exact List.drop_left' (by rw [List.length_take]; omega)
theorem ins_growK {vs ct Z : List Value} {i k : Nat} (hi : i * k ≤ vs.length) (hc : ct.length = k) (hz : Z.length = vs.length - i * k + k) : putN (putN (vs.take (i * k) ++ Z) (i * k) ct) (i * k + k) (vs.drop (i * k)) = vs.take (i * k) ++ (ct ++ vs.drop (i * k)) := by
 have hl : (vs.take (i * k)).length = i * k := by rw [List.length_take]; omega
 have h1 : putN (vs.take (i * k) ++ Z) (i * k) ct = vs.take (i * k) ++ (ct ++ Z.drop k) := by
  unfold putN
  rw [List.take_left' hl, hc, List.append_assoc]
  congr 2
  rw [List.drop_append, List.drop_of_length_le zw, List.nil_append, hl]
  congr 1; omega
 rw [h1]
 unfold putN
 have h2 : (vs.take (i * k) ++ (ct ++ Z.drop k)).take (i * k + k) = vs.take (i * k) ++ ct := by
  rw [← List.append_assoc, List.take_left' (by rw [List.length_append, hl, hc])]
 have h3 : ((vs.take (i * k)) ++ (ct ++ Z.drop k)).drop (i * k + k + (vs.drop (i * k)).length) = [] := List.drop_of_length_le (by simp only [List.length_append, List.length_drop, hl, hc, hz]; omega)
 rw [h2, h3, List.append_nil, List.append_assoc]
theorem put_eraseK {xs : List Value} {i r k : Nat} (h : xs.length = (i + 1 + r) * k) : (putN xs (i * k) (xs.drop ((i + 1) * k))).take ((i + r) * k) = xs.take (i * k) ++ xs.drop ((i + 1) * k) ∧ (putN xs (i * k) (xs.drop ((i + 1) * k))).length = xs.length := by
 have e1 : (i + 1 + r) * k = i * k + k + r * k := by simp only [Nat.add_mul, Nat.one_mul]
 have e2 : (i + 1) * k = i * k + k := by rw [Nat.add_mul, Nat.one_mul]
 have e3 : (i + r) * k = i * k + r * k := Nat.add_mul ..
 unfold putN
 rw [List.length_drop]
 refine ⟨?_, by simp only [List.length_append, List.length_take, List.length_drop]; omega⟩
 rw [List.take_append_of_le_length (by simp only [List.length_append, List.length_take, List.length_drop]; omega), List.take_of_length_le (by simp only [List.length_append, List.length_take, List.length_drop]; omega)]
end Go.Proofs.YtfjedhmffccgnaaGreatDoor.S
