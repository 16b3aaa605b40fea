/- An offer with a number. -/
import Derived.Test.YtijijaobialncaaO9
namespace Go.Proofs.Ytijijaobialncaa.S
open Go.RowKit

theorem T1.makeU {C : Ctx} {K : Env → List Blk → Prop} {e : Env} {L : List Blk} {dst : Option Tmp} {ty : TypeId} {pos : String} {after : Array Edge} {guard : Option (Nat × Bool)} {t el : TypeId} {x y : Operand} {z u : Value} {bytes k : Nat} {kl kc : IntKind} (n : Nat) (hT : C.P.underlying t = some (.slice el)) (hk : SizeIs C.P el k) (hkpos : 0 < k) (hb : BytesIs C.P el bytes) (hz : ZeroIs C.P el z) (h1 : z.cells = Array.replicate k u) (hx : ev C.n e x = .int kl n) (hy : ev C.n e y = .int kc n) (hroom : n * bytes ≤ 281474976710656) (h63 : n ≤ 9223372036854775807)
    (kk : ∀ b, K (putO e dst (.slice (some ⟨b, 0, none⟩) n n)) (⟨b, 0, List.replicate (n * k) u, n * k⟩ :: L)) : T1 C ⟨dst, .makeSlice t x y, ty, pos, after, guard⟩ K e L := by
  intro a w K' Q' hr hs hK
  unfold Oper.wp
  rw [hr.eval]
  obtain ⟨i, hi, hib⟩ := Option.map_eq_some_iff.1 hb
  have hik : i.size = k := by have := hk; unfold SizeIs at this; rw [hi] at this; simpa using this
  have hiz : i.zero = some z := by have := hz; unfold ZeroIs at this; rw [hi] at this; simpa using this
  have hrun : (execOp (ev C.n e) ⟨dst, .makeSlice t x y, ty, pos, after, guard⟩).run C.P w = .ok (.value (.slice (some ⟨w.heap.size, 0, none⟩) n n)) (w.alloc (.cells (madeCells z.cells (n * k)) el)) := by
    show (do pure (Next.value (← Instr.makeSlice t (ev C.n e x) (ev C.n e y))) : Sem Next).run C.P w = _
    rw [hx, hy]
    refine run_value ?_
    have hbm : (i.bytes : Int) * (n : Int) ≤ 281474976710656 := by
      rw [hib, ← Int.natCast_mul, Nat.mul_comm]; omega
    have := run_make (P := C.P) w t el i z hT hi hiz kl kc (n : Int) (n : Int) (by omega) (by omega) hbm (by omega)
    rw [hik] at this
    simpa using this
  rw [hrun]
  have hcs : madeCells z.cells (n * k) = Array.replicate (n * k) u := by
    rw [h1]
    apply Array.ext
    · simp [madeCells]
    · intro j h1 h2
      simp [madeCells, Nat.mod_lt _ hkpos]
  have hst := hs.push (B := ⟨w.heap.size, 0, List.replicate (n * k) u, n * k⟩) (c := madeCells z.cells (n * k)) (E := el) (lo := 0) (hi := 0) (k := w.drawn) rfl (by show 0 + (List.replicate (n * k) u).length ≤ n * k; simp) (by rw [hcs]; simp) (by
    intro j hj
    have hj' : j < n * k := by simpa using hj
    rw [hcs]
    show (Array.replicate (n * k) u)[0 + j]? = (List.replicate (n * k) u)[j]?
    rw [Nat.zero_add, List.getElem?_replicate, if_pos hj']
    rw [Array.getElem?_replicate, if_pos (by omega)]) (.inl rfl)
  exact hK _ _ _ _ (hr.put _ _) hst (kk _)
def bunF (n : Nat) : Frm := ⟨1, List.replicate 4 (List.replicate 32 0), [n, n], [List.replicate 64 0], []⟩
theorem bunF_wf {n : Nat} (h : n < 4294967296) : (bunF n).Wf := by
  refine ⟨fun x hx => ?_, fun x hx => ?_, fun x hx => ?_⟩
  · rw [(List.mem_replicate.1 hx).2]; rfl
  · have : x = n := by simpa [bunF] using hx
    omega
  · have : x = List.replicate 64 0 := by simpa [bunF] using hx
    subst this; rfl
theorem bunO {n b3 b6 b7 : Nat} : FrmO [.int .i64 1, .slice (some ⟨b3, 0, none⟩) 4 4, .slice (some ⟨b6, 0, none⟩) 2 2, .slice (some ⟨b7, 0, none⟩) 1 1, .slice none 0 0] (bunF n) [⟨b3, 0, List.replicate (4 * 32) (byteV 0), 4 * 32⟩, ⟨b6, 0, [u32V n, u32V n], 2⟩, ⟨b7, 0, List.replicate (1 * 64) (byteV 0), 1 * 64⟩] :=
  ⟨_, _, _, _, [_], [_], [_], [], rfl, .inr ⟨b3, 0, 4, 4, 4 * 32, rfl, rfl, Nat.le_refl _, Nat.le_refl _, rfl⟩, .inr ⟨b6, 0, 2, 2, 2, rfl, rfl, Nat.le_refl _, Nat.le_refl _, rfl⟩, .inr ⟨b7, 0, 1, 1, 1 * 64, rfl, rfl, Nat.le_refl _, Nat.le_refl _, rfl⟩, Sl.nil, rfl⟩
set_option maxRecDepth 100000 in
set_option maxHeartbeats 8000000 in
theorem bundle_any (w0 : World) (n : Nat) : FnG P 15 [u32V n] w0 [] [] (fun v Y => ∃ cs, v = .agg cs.toArray ∧ FrmO cs (bunF n) Y) := by
  refine FnG.of 9 [.cell 2 39] Go.Proofs.Try.func15 rfl rfl rfl rfl (fun G hG => ?_)
  refine T.seq ?_
  refine T.region ?_
  refine TL.cons rfl (T1.allocN 5 zr_39 rfl (fun b2 => ?_))
  refine TL.nil ?_
  refine T.seq ?_
  refine T.drawK (fun L_ => True) mixed trivial ?_
  refine TK.take 1 rfl z_F z_F z_F rfl (fun _ _ _ h => h) (fun L_ _ => V1.move' z_B) ?_
  refine TK.take 2 rfl z_F z_F z_F rfl (fun _ _ _ h => h) (fun L_ _ => V1.move' z_B) ?_
  refine TK.three 0 3 4 z_F rfl rfl rfl rfl rfl rfl (T1.makeU (u := byteV 0) 4 ty_35 sz_60 (by decide) by_60 zr_60 (by rfl) rfl rfl (by decide) (by decide) (fun b3 => ?_)) (T1.buildSl1 (os := [.tmp 4, .tmp 5]) (vs := [u32V n, u32V n]) ty_36 sz_27 zr_27 (by decide) rfl (.cons z_B (.cons z_B .nil)) rfl (u32_ones [n, n]) (fun b6 => ?_)) (T1.makeU (u := byteV 0) 1 ty_37 sz_86 (by decide) by_86 zr_86 (by rfl) rfl rfl (by decide) (by decide) (fun b7 => ?_))
  ·
    refine ⟨trivial, ?_⟩
    refine TK.two 3 4 z_F rfl rfl rfl rfl (T1.buildSl1 (os := [.tmp 4, .tmp 5]) (vs := [u32V n, u32V n]) ty_36 sz_27 zr_27 (by decide) rfl (.cons z_B (.cons z_B .nil)) rfl (u32_ones [n, n]) (fun b6 => ?_)) (T1.makeU (u := byteV 0) 1 ty_37 sz_86 (by decide) by_86 zr_86 (by rfl) rfl rfl (by decide) (by decide) (fun b7 => ?_))
    ·
      refine ⟨trivial, ?_⟩
      refine TK.one 4 z_F rfl rfl (T1.makeU (u := byteV 0) 1 ty_37 sz_86 (by decide) by_86 zr_86 (by rfl) rfl rfl (by decide) (by decide) (fun b7 => ?_))
      refine ⟨trivial, ?_⟩
      refine TK.take 5 rfl z_F z_F z_F rfl (fun _ _ _ h => h) (fun L_ _ => V1.buildF pl_39 zr_39 (.one rfl z_B rfl (.one rfl z_B rfl (.one rfl z_B rfl (.one rfl z_B rfl .nil)))) z_I) ?_
      refine TK.one 6 z_F rfl rfl (T1.storeN (vs := [.int .i64 1, .slice (some ⟨b3, 0, none⟩) 4 4, .slice (some ⟨b6, 0, none⟩) 2 2, .slice (some ⟨b7, 0, none⟩) 1 1, .slice none 0 0]) rfl rfl sz_39 (by intro u hu; simp only [List.mem_cons, List.not_mem_nil, or_false] at hu; rcases hu with rfl | rfl | rfl | rfl | rfl <;> rfl) z_H (by rfl) (by rfl) ?_)
      refine ⟨trivial, ?_⟩
      refine TD.done z_F ?_
      refine T.ret ?_
      exact ⟨_, (⟨b3, 0, List.replicate (4 * 32) (byteV 0), 4 * 32⟩ : Blk) :: (⟨b6, 0, [u32V n, u32V n], 2⟩ : Blk) :: (⟨b7, 0, List.replicate (1 * 64) (byteV 0), 1 * 64⟩ : Blk) :: G, _, .cons (.cellN rfl one_39 sz_39 (RdN.whole z_D) (by rfl)) .nil, z_A, [(⟨b3, 0, List.replicate (4 * 32) (byteV 0), 4 * 32⟩ : Blk), (⟨b6, 0, [u32V n, u32V n], 2⟩ : Blk), (⟨b7, 0, List.replicate (1 * 64) (byteV 0), 1 * 64⟩ : Blk)], rfl, _, rfl, bunO⟩
    ·
      refine ⟨trivial, ?_⟩
      refine TK.one 3 z_F rfl rfl (T1.buildSl1 (os := [.tmp 4, .tmp 5]) (vs := [u32V n, u32V n]) ty_36 sz_27 zr_27 (by decide) rfl (.cons z_B (.cons z_B .nil)) rfl (u32_ones [n, n]) (fun b6 => ?_))
      refine ⟨trivial, ?_⟩
      refine TK.take 5 rfl z_F z_F z_F rfl (fun _ _ _ h => h) (fun L_ _ => V1.buildF pl_39 zr_39 (.one rfl z_B rfl (.one rfl z_B rfl (.one rfl z_B rfl (.one rfl z_B rfl .nil)))) z_I) ?_
      refine TK.one 6 z_F rfl rfl (T1.storeN (vs := [.int .i64 1, .slice (some ⟨b3, 0, none⟩) 4 4, .slice (some ⟨b6, 0, none⟩) 2 2, .slice (some ⟨b7, 0, none⟩) 1 1, .slice none 0 0]) rfl rfl sz_39 (by intro u hu; simp only [List.mem_cons, List.not_mem_nil, or_false] at hu; rcases hu with rfl | rfl | rfl | rfl | rfl <;> rfl) z_H (by rfl) (by rfl) ?_)
      refine ⟨trivial, ?_⟩
      refine TD.done z_F ?_
      refine T.ret ?_
      exact ⟨_, (⟨b3, 0, List.replicate (4 * 32) (byteV 0), 4 * 32⟩ : Blk) :: (⟨b6, 0, [u32V n, u32V n], 2⟩ : Blk) :: (⟨b7, 0, List.replicate (1 * 64) (byteV 0), 1 * 64⟩ : Blk) :: G, _, .cons (.cellN rfl one_39 sz_39 (RdN.whole z_D) (by rfl)) .nil, z_A, [(⟨b3, 0, List.replicate (4 * 32) (byteV 0), 4 * 32⟩ : Blk), (⟨b6, 0, [u32V n, u32V n], 2⟩ : Blk), (⟨b7, 0, List.replicate (1 * 64) (byteV 0), 1 * 64⟩ : Blk)], rfl, _, rfl, bunO⟩
  ·
    refine ⟨trivial, ?_⟩
    refine TK.two 0 4 z_F rfl rfl rfl rfl (T1.makeU (u := byteV 0) 4 ty_35 sz_60 (by decide) by_60 zr_60 (by rfl) rfl rfl (by decide) (by decide) (fun b3 => ?_)) (T1.makeU (u := byteV 0) 1 ty_37 sz_86 (by decide) by_86 zr_86 (by rfl) rfl rfl (by decide) (by decide) (fun b7 => ?_))
    ·
      refine ⟨trivial, ?_⟩
      refine TK.one 4 z_F rfl rfl (T1.makeU (u := byteV 0) 1 ty_37 sz_86 (by decide) by_86 zr_86 (by rfl) rfl rfl (by decide) (by decide) (fun b7 => ?_))
      refine ⟨trivial, ?_⟩
      refine TK.take 5 rfl z_F z_F z_F rfl (fun _ _ _ h => h) (fun L_ _ => V1.buildF pl_39 zr_39 (.one rfl z_B rfl (.one rfl z_B rfl (.one rfl z_B rfl (.one rfl z_B rfl .nil)))) z_I) ?_
      refine TK.one 6 z_F rfl rfl (T1.storeN (vs := [.int .i64 1, .slice (some ⟨b3, 0, none⟩) 4 4, .slice (some ⟨b6, 0, none⟩) 2 2, .slice (some ⟨b7, 0, none⟩) 1 1, .slice none 0 0]) rfl rfl sz_39 (by intro u hu; simp only [List.mem_cons, List.not_mem_nil, or_false] at hu; rcases hu with rfl | rfl | rfl | rfl | rfl <;> rfl) z_H (by rfl) (by rfl) ?_)
      refine ⟨trivial, ?_⟩
      refine TD.done z_F ?_
      refine T.ret ?_
      exact ⟨_, (⟨b3, 0, List.replicate (4 * 32) (byteV 0), 4 * 32⟩ : Blk) :: (⟨b6, 0, [u32V n, u32V n], 2⟩ : Blk) :: (⟨b7, 0, List.replicate (1 * 64) (byteV 0), 1 * 64⟩ : Blk) :: G, _, .cons (.cellN rfl one_39 sz_39 (RdN.whole z_D) (by rfl)) .nil, z_A, [(⟨b3, 0, List.replicate (4 * 32) (byteV 0), 4 * 32⟩ : Blk), (⟨b6, 0, [u32V n, u32V n], 2⟩ : Blk), (⟨b7, 0, List.replicate (1 * 64) (byteV 0), 1 * 64⟩ : Blk)], rfl, _, rfl, bunO⟩
    ·
      refine ⟨trivial, ?_⟩
      refine TK.one 0 z_F rfl rfl (T1.makeU (u := byteV 0) 4 ty_35 sz_60 (by decide) by_60 zr_60 (by rfl) rfl rfl (by decide) (by decide) (fun b3 => ?_))
      refine ⟨trivial, ?_⟩
      refine TK.take 5 rfl z_F z_F z_F rfl (fun _ _ _ h => h) (fun L_ _ => V1.buildF pl_39 zr_39 (.one rfl z_B rfl (.one rfl z_B rfl (.one rfl z_B rfl (.one rfl z_B rfl .nil)))) z_I) ?_
      refine TK.one 6 z_F rfl rfl (T1.storeN (vs := [.int .i64 1, .slice (some ⟨b3, 0, none⟩) 4 4, .slice (some ⟨b6, 0, none⟩) 2 2, .slice (some ⟨b7, 0, none⟩) 1 1, .slice none 0 0]) rfl rfl sz_39 (by intro u hu; simp only [List.mem_cons, List.not_mem_nil, or_false] at hu; rcases hu with rfl | rfl | rfl | rfl | rfl <;> rfl) z_H (by rfl) (by rfl) ?_)
      refine ⟨trivial, ?_⟩
      refine TD.done z_F ?_
      refine T.ret ?_
      exact ⟨_, (⟨b3, 0, List.replicate (4 * 32) (byteV 0), 4 * 32⟩ : Blk) :: (⟨b6, 0, [u32V n, u32V n], 2⟩ : Blk) :: (⟨b7, 0, List.replicate (1 * 64) (byteV 0), 1 * 64⟩ : Blk) :: G, _, .cons (.cellN rfl one_39 sz_39 (RdN.whole z_D) (by rfl)) .nil, z_A, [(⟨b3, 0, List.replicate (4 * 32) (byteV 0), 4 * 32⟩ : Blk), (⟨b6, 0, [u32V n, u32V n], 2⟩ : Blk), (⟨b7, 0, List.replicate (1 * 64) (byteV 0), 1 * 64⟩ : Blk)], rfl, _, rfl, bunO⟩
  ·
    refine ⟨trivial, ?_⟩
    refine TK.two 0 3 z_F rfl rfl rfl rfl (T1.makeU (u := byteV 0) 4 ty_35 sz_60 (by decide) by_60 zr_60 (by rfl) rfl rfl (by decide) (by decide) (fun b3 => ?_)) (T1.buildSl1 (os := [.tmp 4, .tmp 5]) (vs := [u32V n, u32V n]) ty_36 sz_27 zr_27 (by decide) rfl (.cons z_B (.cons z_B .nil)) rfl (u32_ones [n, n]) (fun b6 => ?_))
    ·
      refine ⟨trivial, ?_⟩
      refine TK.one 3 z_F rfl rfl (T1.buildSl1 (os := [.tmp 4, .tmp 5]) (vs := [u32V n, u32V n]) ty_36 sz_27 zr_27 (by decide) rfl (.cons z_B (.cons z_B .nil)) rfl (u32_ones [n, n]) (fun b6 => ?_))
      refine ⟨trivial, ?_⟩
      refine TK.take 5 rfl z_F z_F z_F rfl (fun _ _ _ h => h) (fun L_ _ => V1.buildF pl_39 zr_39 (.one rfl z_B rfl (.one rfl z_B rfl (.one rfl z_B rfl (.one rfl z_B rfl .nil)))) z_I) ?_
      refine TK.one 6 z_F rfl rfl (T1.storeN (vs := [.int .i64 1, .slice (some ⟨b3, 0, none⟩) 4 4, .slice (some ⟨b6, 0, none⟩) 2 2, .slice (some ⟨b7, 0, none⟩) 1 1, .slice none 0 0]) rfl rfl sz_39 (by intro u hu; simp only [List.mem_cons, List.not_mem_nil, or_false] at hu; rcases hu with rfl | rfl | rfl | rfl | rfl <;> rfl) z_H (by rfl) (by rfl) ?_)
      refine ⟨trivial, ?_⟩
      refine TD.done z_F ?_
      refine T.ret ?_
      exact ⟨_, (⟨b3, 0, List.replicate (4 * 32) (byteV 0), 4 * 32⟩ : Blk) :: (⟨b6, 0, [u32V n, u32V n], 2⟩ : Blk) :: (⟨b7, 0, List.replicate (1 * 64) (byteV 0), 1 * 64⟩ : Blk) :: G, _, .cons (.cellN rfl one_39 sz_39 (RdN.whole z_D) (by rfl)) .nil, z_A, [(⟨b3, 0, List.replicate (4 * 32) (byteV 0), 4 * 32⟩ : Blk), (⟨b6, 0, [u32V n, u32V n], 2⟩ : Blk), (⟨b7, 0, List.replicate (1 * 64) (byteV 0), 1 * 64⟩ : Blk)], rfl, _, rfl, bunO⟩
    ·
      refine ⟨trivial, ?_⟩
      refine TK.one 0 z_F rfl rfl (T1.makeU (u := byteV 0) 4 ty_35 sz_60 (by decide) by_60 zr_60 (by rfl) rfl rfl (by decide) (by decide) (fun b3 => ?_))
      refine ⟨trivial, ?_⟩
      refine TK.take 5 rfl z_F z_F z_F rfl (fun _ _ _ h => h) (fun L_ _ => V1.buildF pl_39 zr_39 (.one rfl z_B rfl (.one rfl z_B rfl (.one rfl z_B rfl (.one rfl z_B rfl .nil)))) z_I) ?_
      refine TK.one 6 z_F rfl rfl (T1.storeN (vs := [.int .i64 1, .slice (some ⟨b3, 0, none⟩) 4 4, .slice (some ⟨b6, 0, none⟩) 2 2, .slice (some ⟨b7, 0, none⟩) 1 1, .slice none 0 0]) rfl rfl sz_39 (by intro u hu; simp only [List.mem_cons, List.not_mem_nil, or_false] at hu; rcases hu with rfl | rfl | rfl | rfl | rfl <;> rfl) z_H (by rfl) (by rfl) ?_)
      refine ⟨trivial, ?_⟩
      refine TD.done z_F ?_
      refine T.ret ?_
      exact ⟨_, (⟨b3, 0, List.replicate (4 * 32) (byteV 0), 4 * 32⟩ : Blk) :: (⟨b6, 0, [u32V n, u32V n], 2⟩ : Blk) :: (⟨b7, 0, List.replicate (1 * 64) (byteV 0), 1 * 64⟩ : Blk) :: G, _, .cons (.cellN rfl one_39 sz_39 (RdN.whole z_D) (by rfl)) .nil, z_A, [(⟨b3, 0, List.replicate (4 * 32) (byteV 0), 4 * 32⟩ : Blk), (⟨b6, 0, [u32V n, u32V n], 2⟩ : Blk), (⟨b7, 0, List.replicate (1 * 64) (byteV 0), 1 * 64⟩ : Blk)], rfl, _, rfl, bunO⟩

end Go.Proofs.Ytijijaobialncaa.S
