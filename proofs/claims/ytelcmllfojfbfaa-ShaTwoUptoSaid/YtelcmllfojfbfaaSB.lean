/- Summing leaves its parts as they were. -/
import Derived.Test.YtelcmllfojfbfaaS9
namespace Go.Proofs.Ytelcmllfojfbfaa.S
open Go.RowKit

open Sh
theorem PartR.front {w0 : World} {Ps : List Blk} {b off c size : Nat} {cells : List Value} {p : List UInt8} (hB : (⟨b, off, cells, size⟩ : Blk) ∈ Ps) (hp : cells.take p.length = p.map byteV) : PartR w0 Ps (.slice (some ⟨b, off, none⟩) p.length c) p := by
  have := PartR.piece (w0 := w0) (o := 0) (c := c) hB (p := p) (by rw [List.drop_zero]; exact hp)
  exact this
theorem two_parts {w0 : World} {Ps : List Blk} {v u : Value} {p q : List UInt8} (h : PartR w0 Ps v p) (g : PartR w0 Ps u q) : ∀ (i : Nat) (sv : Value) (r : List UInt8), [v, u][i]? = some sv → [p, q][i]? = some r → PartR w0 Ps sv r := by
  intro i sv r h1 h2
  match i with
  | 0 => cases h1; cases h2; exact h
  | 1 => cases h1; cases h2; exact g
  | i + 2 => simp at h1
theorem two_len {p q : List UInt8} {N : Nat} (h : p.length ≤ N) (g : q.length ≤ N) : ∀ r ∈ [p, q], r.length ≤ N := by
  intro r hr
  simp only [List.mem_cons, List.not_mem_nil, or_false] at hr
  rcases hr with rfl | rfl <;> assumption

set_option maxRecDepth 100000 in
set_option maxHeartbeats 2000000 in
theorem ShaLeaves_any (v0 : Value) (l : List UInt8) (w0 : World) (h : SlR w0 v0 1 l.length (l.map byteV)) (hl : l.length ≤ 140737488355328) : Fn P 12 [v0] w0 [] (fun v _ => v = .bool true) := by
  obtain ⟨va, vc, rfl⟩ := h.form
  refine Fn.of 78 [.tmp 2] Go.Proofs.Try.func12 rfl rfl rfl rfl ?_
  refine T.seq ?_
  refine T.region ?_
  refine TL.cons rfl (V1.t (V1.assign' (by (conv => lhs; whnf) <;> rfl)) ?_)
  refine TL.nil ?_
  refine T.seq ?_
  refine T.seq ?_
  refine T.region ?_
  refine TL.cons rfl (T1.call0 has_17 rfl (fun w hs => small_any w) (fun v hv => ?_))
  subst hv
  refine TL.cons rfl (V1.t (V1.not rfl rfl) ?_)
  refine TL.cons rfl (V1.t (V1.move' (by (conv => lhs; whnf) <;> rfl)) ?_)
  refine TL.cons rfl (T1.call0 has_21 rfl (fun w hs => large_any w) (fun v hv => ?_))
  subst hv
  refine TL.cons rfl (V1.t (V1.not rfl rfl) ?_)
  refine TL.cons rfl (V1.t (V1.pick rfl (by (conv => lhs; whnf) <;> rfl)) ?_)
  refine TL.nil ?_
  refine T.cond_f rfl ?_
  refine T.skip ?_
  refine T.seq ?_
  refine T.region ?_
  refine TL.cons rfl (T1.buildSl1 (os := []) ty_22 sz_5 zr_5 (by decide) rfl .nil rfl (ones rfl) (fun b14 => ?_))
  refine TL.cons rfl (V1.t (V1.move' (by (conv => lhs; whnf) <;> rfl)) ?_)
  refine TL.cons rfl (T1.append ty_22 kd_22 sz_5 by_5 zr_5 rfl (by decide) (by decide) rfl rfl (Sl.mk (b := b14) (xs := []) (len := 0) (cap := 0) (size := 0) rfl (Nat.le_refl _) (Nat.le_refl _)) (h.src rfl) (one_bytes _) 200000000000000 (by simp only [List.length_map, List.length_nil]; omega) (by omega) (by repeat (first | exact PickS.last | exact PickS.one | exact PickS.here | exact PickS.nil | apply PickS.there | apply PickS.far)) (fun s1 Ls1 hs1 => ?_))
  rw [List.nil_append] at hs1
  refine TL.cons rfl (T1.buildSl1 (os := [.const (.int .u8 9), .const (.int .u8 8), .const (.int .u8 7)]) ty_22 sz_5 zr_5 (by decide) rfl (.cons (by (conv => lhs; whnf) <;> rfl) (.cons (by (conv => lhs; whnf) <;> rfl) (.cons (by (conv => lhs; whnf) <;> rfl) .nil))) rfl (ones rfl) (fun b17 => ?_))
  refine TL.cons rfl (T1.append ty_22 kd_22 sz_5 by_5 zr_5 rfl (by decide) (by decide) rfl rfl hs1 (.sl (n := 3) (RdN.at0 (cells := ([9, 8, 7] : List UInt8).map byteV) (by repeat (first | exact Find.here | assumption | apply Find.there | apply Find.far))) rfl) (one_bytes [9, 8, 7]) 200000000000000 (by simp only [List.length_map, List.length_cons, List.length_nil]; omega) (by omega) (by repeat (first | exact PickS.last | exact PickS.one | exact PickS.here | exact PickS.nil | apply PickS.there | apply PickS.far)) (fun s2 Ls2 hs2 => ?_))
  rw [← List.map_append] at hs2
  obtain ⟨br, or_, cr, zr, rfl, hcr, hzr, rfl⟩ := hs2.block (by simp)
  have hlen3 : (List.map byteV (l ++ [9, 8, 7])).length = l.length + 3 := by simp
  rw [hlen3] at hcr ⊢
  dsimp only [List.cons_append, List.nil_append]
  refine TL.cons rfl (V1.t (V1.assign' (by (conv => lhs; whnf) <;> rfl)) ?_)
  refine TL.nil ?_
  refine T.seq ?_
  refine T.region ?_
  refine TL.cons rfl (V1.t (V1.move' (by (conv => lhs; whnf) <;> rfl)) ?_)
  refine TL.cons rfl (V1.t (V1.move' (by (conv => lhs; whnf) <;> rfl)) ?_)
  refine TL.cons rfl (V1.t (V1.lenSl ty_22 rfl) ?_)
  refine TL.cons rfl (V1.t (V1.sliceTo l.length ty_22 sz_5 rfl rfl rfl (by omega) (by omega)) ?_)
  refine TL.cons rfl (V1.t (V1.assign' (by (conv => lhs; whnf) <;> rfl)) ?_)
  refine TL.nil ?_
  refine T.seq ?_
  refine T.live (l := [(0, _), (3, _), (4, _)]) (.cons (by (conv => lhs; whnf) <;> rfl) (.cons (by (conv => lhs; whnf) <;> rfl) (.cons (by (conv => lhs; whnf) <;> rfl) .nil))) (fun e_ => ?_)
  refine T.region ?_
  refine TL.cons rfl (V1.t (V1.move' (by (conv => lhs; whnf) <;> rfl)) ?_)
  refine TL.cons rfl (V1.t (V1.move' (by (conv => lhs; whnf) <;> rfl)) ?_)
  refine TL.cons rfl (T1.buildSl1 (os := [.tmp 23, .tmp 24]) (vs := [.slice (some ⟨br, or_, none⟩) l.length cr, .slice (some ⟨br, or_, none⟩) l.length cr]) ty_44 sz_22 zr_22 (by decide) rfl (.cons (by (conv => lhs; whnf) <;> rfl) (.cons (by (conv => lhs; whnf) <;> rfl) .nil)) rfl (ones rfl) (fun b25 => ?_))
  refine TL.cons rfl (T1.callX (X := [⟨b25, 0, [.slice (some ⟨br, or_, none⟩) l.length cr, .slice (some ⟨br, or_, none⟩) l.length cr], 2⟩, ⟨br, or_, List.map byteV (l ++ [9, 8, 7]), zr⟩]) has_19 rfl (Sum256_any _ _ [l, l] [⟨b25, 0, [.slice (some ⟨br, or_, none⟩) l.length cr, .slice (some ⟨br, or_, none⟩) l.length cr], 2⟩, ⟨br, or_, List.map byteV (l ++ [9, 8, 7]), zr⟩] (PartsR.ones (svs := [.slice (some ⟨br, or_, none⟩) l.length cr, .slice (some ⟨br, or_, none⟩) l.length cr]) (size := 2) (by simp) rfl (two_parts (PartR.front (by simp : (⟨br, or_, List.map byteV (l ++ [9, 8, 7]), zr⟩ : Blk) ∈ _) (by rw [List.map_append, List.take_left' (by rw [List.length_map])])) (PartR.front (by simp : (⟨br, or_, List.map byteV (l ++ [9, 8, 7]), zr⟩ : Blk) ∈ _) (by rw [List.map_append, List.take_left' (by rw [List.length_map])])))) (two_len (by omega) (by omega)) (show 2 < 9223372036854775807 by decide) (by simp; omega)) (by repeat (first | exact Take.nil | apply Take.one (by repeat (first | exact Pick.here | apply Pick.there | apply Pick.far)) | apply Take.seg (by repeat (first | exact PickS.last | exact PickS.one | exact PickS.here | exact PickS.nil | apply PickS.there | apply PickS.far)) | exact Take.last (by repeat (first | exact PickS.last | exact PickS.one | exact PickS.here | exact PickS.nil | apply PickS.there | apply PickS.far)))) (fun v Y hY => ?_))
  obtain ⟨_, rfl⟩ := hY
  dsimp only [List.cons_append, List.nil_append]
  refine TL.nil ?_
  refine T.seq ?_
  refine T.region ?_
  refine TL.cons rfl (V1.t (V1.move' (by (conv => lhs; whnf) <;> rfl)) ?_)
  refine TL.cons rfl (V1.t (V1.move' (by (conv => lhs; whnf) <;> rfl)) ?_)
  refine TL.cons rfl (T1.buildSl1 (os := [.tmp 27, .tmp 28]) (vs := [.slice (some ⟨br, or_, none⟩) l.length cr, .slice (some ⟨br, or_, none⟩) l.length cr]) ty_44 sz_22 zr_22 (by decide) rfl (.cons (by (conv => lhs; whnf) <;> rfl) (.cons (by (conv => lhs; whnf) <;> rfl) .nil)) rfl (ones rfl) (fun b29 => ?_))
  refine TL.cons rfl (T1.callX (X := [⟨b29, 0, [.slice (some ⟨br, or_, none⟩) l.length cr, .slice (some ⟨br, or_, none⟩) l.length cr], 2⟩, ⟨br, or_, List.map byteV (l ++ [9, 8, 7]), zr⟩]) has_22 rfl (Sum512_any _ _ [l, l] [⟨b29, 0, [.slice (some ⟨br, or_, none⟩) l.length cr, .slice (some ⟨br, or_, none⟩) l.length cr], 2⟩, ⟨br, or_, List.map byteV (l ++ [9, 8, 7]), zr⟩] (PartsR.ones (svs := [.slice (some ⟨br, or_, none⟩) l.length cr, .slice (some ⟨br, or_, none⟩) l.length cr]) (size := 2) (by simp) rfl (two_parts (PartR.front (by simp : (⟨br, or_, List.map byteV (l ++ [9, 8, 7]), zr⟩ : Blk) ∈ _) (by rw [List.map_append, List.take_left' (by rw [List.length_map])])) (PartR.front (by simp : (⟨br, or_, List.map byteV (l ++ [9, 8, 7]), zr⟩ : Blk) ∈ _) (by rw [List.map_append, List.take_left' (by rw [List.length_map])])))) (two_len (by omega) (by omega)) (show 2 < 9223372036854775807 by decide) (by simp; omega)) (by repeat (first | exact Take.nil | apply Take.one (by repeat (first | exact Pick.here | apply Pick.there | apply Pick.far)) | apply Take.seg (by repeat (first | exact PickS.last | exact PickS.one | exact PickS.here | exact PickS.nil | apply PickS.there | apply PickS.far)) | exact Take.last (by repeat (first | exact PickS.last | exact PickS.one | exact PickS.here | exact PickS.nil | apply PickS.there | apply PickS.far)))) (fun v Y hY => ?_))
  obtain ⟨_, rfl⟩ := hY
  dsimp only [List.cons_append, List.nil_append]
  refine TL.nil ?_
  refine T.seq ?_
  refine T.region ?_
  refine TL.cons rfl (T1.callN has_35 rfl (fun w hs => New256_any w) (fun v Y hY => ?_))
  obtain ⟨bh, rfl, hb⟩ := hY
  refine TL.cons rfl (V1.t (V1.assign' (by (conv => lhs; whnf) <;> rfl)) ?_)
  refine TL.nil ?_
  refine T.seq ?_
  refine T.region ?_
  refine TL.cons rfl (V1.t (V1.move' (by (conv => lhs; whnf) <;> rfl)) ?_)
  refine TL.cons rfl (V1.t (V1.move' (by (conv => lhs; whnf) <;> rfl)) ?_)
  refine TL.cons rfl (T1.buildSl1 (os := [.tmp 33]) (vs := [.slice (some ⟨br, or_, none⟩) l.length cr]) ty_44 sz_22 zr_22 (by decide) rfl (.cons (by (conv => lhs; whnf) <;> rfl) .nil) rfl (ones rfl) (fun b34 => ?_))
  refine TL.cons rfl (T1.callX (X := Y ++ ([⟨b34, 0, [.slice (some ⟨br, or_, none⟩) l.length cr], 1⟩, ⟨br, or_, List.map byteV (l ++ [9, 8, 7]), zr⟩] : List Blk)) has_28 rfl (Write256_any _ bh _ [] [l] Y [⟨b34, 0, [.slice (some ⟨br, or_, none⟩) l.length cr], 1⟩, ⟨br, or_, List.map byteV (l ++ [9, 8, 7]), zr⟩] hb (PartsR.ones (svs := [.slice (some ⟨br, or_, none⟩) l.length cr]) (size := 1) (by simp) rfl (one_part (PartR.front (by simp : (⟨br, or_, List.map byteV (l ++ [9, 8, 7]), zr⟩ : Blk) ∈ _) (by rw [List.map_append, List.take_left' (by rw [List.length_map])])))) (one_len (by omega)) (show 1 < 9223372036854775807 by decide)) (by repeat (first | exact Take.nil | apply Take.one (by repeat (first | exact Pick.here | apply Pick.there | apply Pick.far)) | apply Take.seg (by repeat (first | exact PickS.last | exact PickS.one | exact PickS.here | exact PickS.nil | apply PickS.there | apply PickS.far)) | exact Take.last (by repeat (first | exact PickS.last | exact PickS.one | exact PickS.here | exact PickS.nil | apply PickS.there | apply PickS.far)))) (fun v2 Z hZ => ?_))
  obtain ⟨X', hx', rfl⟩ := hZ
  rw [List.nil_append, show ([l] : List (List UInt8)).flatten = l from by simp] at hx'
  simp only [List.append_assoc, List.cons_append, List.nil_append]
  refine TL.nil ?_
  refine T.seq ?_
  refine T.region ?_
  refine TL.cons rfl (V1.t (V1.move' (by (conv => lhs; whnf) <;> rfl)) ?_)
  refine TL.cons rfl (T1.callX has_36 rfl (HSum256_any _ bh l X' hx' (by omega)) (by repeat (first | exact Take.nil | apply Take.one (by repeat (first | exact Pick.here | apply Pick.there | apply Pick.far)) | apply Take.seg (by repeat (first | exact PickS.last | exact PickS.one | exact PickS.here | exact PickS.nil | apply PickS.there | apply PickS.far)) | exact Take.last (by repeat (first | exact PickS.last | exact PickS.one | exact PickS.here | exact PickS.nil | apply PickS.there | apply PickS.far)))) (fun v3 Z hZ => ?_))
  obtain ⟨rfl, hzz⟩ := hZ
  rw [hzz]
  refine TL.cons rfl (T1.allocN 32 zr_26 rfl (fun b6 => ?_))
  refine TL.cons rfl (T1.storeN rfl rfl sz_26 (one_bytes _) (by repeat (first | exact Sub.one | apply Sub.there | apply Sub.far)) (by rw [List.length_map, sha_len]; rfl) (by rw [List.length_map, sha_len]) ?_)
  refine TL.nil ?_
  refine T.seq ?_
  refine T.seq ?_
  refine T.live (l := [(0, _), (3, _), (4, _), (5, _), (6, _)]) (.cons (by (conv => lhs; whnf) <;> rfl) (.cons (by (conv => lhs; whnf) <;> rfl) (.cons (by (conv => lhs; whnf) <;> rfl) (.cons (by (conv => lhs; whnf) <;> rfl) (.cons (by (conv => lhs; whnf) <;> rfl) .nil))))) (fun e_ => ?_)
  refine T.region ?_
  refine TL.cons rfl (V1.t (V1.move' (by (conv => lhs; whnf) <;> rfl)) ?_)
  refine TL.cons rfl (V1.t (V1.lenSl ty_22 rfl) ?_)
  refine TL.cons rfl (V1.t (V1.move' (by (conv => lhs; whnf) <;> rfl)) ?_)
  refine TL.nil ?_
  refine T.block ?_
  refine T.loopL (σ := Nat × List UInt8) (l0 := [(0, _), (3, _), (4, _), (5, _), (6, _), (39, _)]) (fun x => [(40, .int .i64 (x.1 : Nat))]) (fun x L => L = ⟨b6, 0, (sha T256 l).map byteV, 32⟩ :: (X' ++ (⟨br, or_, List.map byteV (x.2 ++ [9, 8, 7]), zr⟩ :: [])) ∧ x.1 ≤ l.length ∧ x.2.length = l.length) (fun x => l.length - x.1) (0, l) (.cons rfl .nil) (.cons (by (conv => lhs; whnf) <;> rfl) (.cons (by (conv => lhs; whnf) <;> rfl) (.cons (by (conv => lhs; whnf) <;> rfl) (.cons (by (conv => lhs; whnf) <;> rfl) (.cons (by (conv => lhs; whnf) <;> rfl) (.cons (by (conv => lhs; whnf) <;> rfl) .nil)))))) (by repeat (first | exact Take.nil | apply Take.one (by repeat (first | exact Pick.here | apply Pick.there | apply Pick.far)) | apply Take.seg (by repeat (first | exact PickS.last | exact PickS.one | exact PickS.here | exact PickS.nil | apply PickS.there | apply PickS.far)) | exact Take.last (by repeat (first | exact PickS.last | exact PickS.one | exact PickS.here | exact PickS.nil | apply PickS.there | apply PickS.far)))) (⟨rfl, Nat.zero_le _, rfl⟩) ?_
  rintro ⟨i, ys⟩ e_ L ⟨rfl, hi, hyl⟩
  simp only at hi hyl
  refine T.seq ?_
  refine T.region ?_
  refine TL.cons rfl (T1.ltI_split rfl rfl (fun h11_0 => ?_) (fun h11_0 => ?_))
  ·
    simp only at h11_0
    obtain ⟨x, hx⟩ : ∃ x, ys[i]? = some x := ⟨_, List.getElem?_eq_getElem (by omega)⟩
    refine TL.nil ?_
    refine T.seq ?_
    refine T.cond_t rfl ?_
    refine T.skip ?_
    refine T.seq ?_
    refine T.block ?_
    refine T.seq ?_
    refine T.region ?_
    refine TL.cons rfl (V1.t (V1.move' (by (conv => lhs; whnf) <;> rfl)) ?_)
    refine TL.cons rfl (V1.t (V1.assign' (by (conv => lhs; whnf) <;> rfl)) ?_)
    refine TL.nil ?_
    refine T.region ?_
    refine TL.cons rfl (V1.t (V1.move' (by (conv => lhs; whnf) <;> rfl)) ?_)
    refine TL.cons rfl (V1.t (V1.move' (by (conv => lhs; whnf) <;> rfl)) ?_)
    refine TL.cons rfl (V1.t (V1.indexAddrS ty_22 sz_5 rfl rfl (by omega) (by omega)) ?_)
    refine TL.cons rfl (V1.t (V1.load1 one_5 rfl (show Rd _ _ ⟨br, or_ + i * 1, none⟩ (byteV x) from by rw [Nat.mul_one]; exact Rd.at (cells := List.map byteV (ys ++ [9, 8, 7])) (by repeat (first | exact Find.here | assumption | apply Find.there | apply Find.far)) (by rw [List.getElem?_map, List.getElem?_append_left (show i < ys.length by omega), hx]; rfl))) ?_)
    refine TL.cons rfl (V1.t (V1.addW (b := 1#8) u8U rfl rfl) ?_)
    refine TL.cons rfl (V1.t (V1.indexAddrS ty_22 sz_5 rfl rfl (by omega) (by omega)) ?_)
    refine TL.cons rfl (T1.storeE (o := or_ + i * 1) (cells := List.map byteV (ys ++ [9, 8, 7])) (cells' := List.map byteV (ys.set i ⟨x.toBitVec + 1#8⟩ ++ [9, 8, 7])) (v := byteV ⟨x.toBitVec + 1#8⟩) rfl rfl sz_5 rfl (by rw [show or_ + i * 1 - or_ = i from by omega, ← List.map_set, List.set_append_left _ _ (show i < ys.length by omega)]) (by repeat (first | exact Sub.one | apply Sub.there | apply Sub.far)) (by omega) (by rw [List.length_map, List.length_append]; omega) ?_)
    refine TL.nil ?_
    refine T.region ?_
    refine TL.cons rfl (V1.t (V1.add rfl rfl (wrap_i64 _ (by omega) (by omega))) ?_)
    refine TL.cons rfl (V1.t (V1.move' (by (conv => lhs; whnf) <;> rfl)) ?_)
    refine TL.nil ?_
    exact ⟨(i + 1, ys.set i ⟨x.toBitVec + 1#8⟩), _, _, (by simp only; omega), (.cons rfl .nil), (.cons rfl (.cons rfl (.cons rfl (.cons rfl (.cons rfl (.cons rfl .nil)))))), (by repeat (first | exact Take.nil | apply Take.one (by repeat (first | exact Pick.here | apply Pick.there | apply Pick.far)) | apply Take.seg (by repeat (first | exact PickS.last | exact PickS.one | exact PickS.here | exact PickS.nil | apply PickS.there | apply PickS.far)) | exact Take.last (by repeat (first | exact PickS.last | exact PickS.one | exact PickS.here | exact PickS.nil | apply PickS.there | apply PickS.far)))), ⟨rfl, by simp only; omega, by simp only [List.length_set]; exact hyl⟩⟩
  ·
    refine TL.nil ?_
    refine T.seq ?_
    refine T.cond_f rfl ?_
    refine T.exit ?_
    refine T.seq ?_
    refine T.drawK (fun L_ => Find L_ ⟨b6, 0, (sha T256 l).map byteV, 32⟩ ∧ Find L_ ⟨br, or_, List.map byteV (ys ++ [9, 8, 7]), zr⟩) mixed ⟨(by repeat (first | exact Find.here | assumption | apply Find.there | apply Find.far)), (by repeat (first | exact Find.here | assumption | apply Find.there | apply Find.far))⟩ ?_
    refine TK.take 0 rfl (by decide +kernel) (by decide +kernel) (by decide +kernel) rfl (fun _ _ _ h => h) (fun L_ ⟨k1_, k2_⟩ => V1.move' (by (conv => lhs; whnf) <;> rfl)) ?_
    refine TK.take 2 rfl (by decide +kernel) (by decide +kernel) (by decide +kernel) rfl (fun _ _ _ h => h) (fun L_ ⟨k1_, k2_⟩ => V1.loadN one_26 sz_26 rfl (RdN.whole (cells := (sha T256 l).map byteV) (by repeat (first | exact Find.here | assumption | apply Find.there | apply Find.far))) (by rw [List.length_map, sha_len])) ?_
    refine TK.one 1 (by decide +kernel) rfl rfl (T1.callX has_36 rfl (HSum256_any _ bh l X' hx' (by omega)) (by repeat (first | exact Take.nil | apply Take.one (by repeat (first | exact Pick.here | apply Pick.there | apply Pick.far)) | apply Take.seg (by repeat (first | exact PickS.last | exact PickS.one | exact PickS.here | exact PickS.nil | apply PickS.there | apply PickS.far)) | exact Take.last (by repeat (first | exact PickS.last | exact PickS.one | exact PickS.here | exact PickS.nil | apply PickS.there | apply PickS.far)))) (fun v3 Z hZ => ?_))
    obtain ⟨rfl, hzz⟩ := hZ
    rw [hzz]
    refine ⟨⟨(by repeat (first | exact Find.here | assumption | apply Find.there | apply Find.far)), (by repeat (first | exact Find.here | assumption | apply Find.there | apply Find.far))⟩, ?_⟩
    refine TK.take 3 rfl (by decide +kernel) (by decide +kernel) (by decide +kernel) rfl (fun _ _ _ h => h) (fun L_ ⟨k1_, k2_⟩ => V1.eqBs (r := true) ty_26 ty_5 sz_5 eg_26 rfl rfl (sha_len _ _) (sha_len _ _) (by simp)) ?_
    refine TK.take 4 rfl (by decide +kernel) (by decide +kernel) (by decide +kernel) rfl (fun _ _ _ h => h) (fun L_ ⟨k1_, k2_⟩ => V1.move' (by (conv => lhs; whnf) <;> rfl)) ?_
    refine TK.take 5 rfl (by decide +kernel) (by decide +kernel) (by decide +kernel) rfl (fun _ _ _ h => h) (fun L_ ⟨k1_, k2_⟩ => V1.loadN one_26 sz_26 rfl (RdN.whole (cells := (sha T256 l).map byteV) (by repeat (first | exact Find.here | assumption | apply Find.there | apply Find.far))) (by rw [List.length_map, sha_len])) ?_
    refine TK.take 6 rfl (by decide +kernel) (by decide +kernel) (by decide +kernel) rfl (fun _ _ _ h => h) (fun L_ ⟨k1_, k2_⟩ => V1.move' (by (conv => lhs; whnf) <;> rfl)) ?_
    refine TK.one 7 (by decide +kernel) rfl rfl (T1.buildSl1 (os := [.tmp 56]) (vs := [.slice va l.length vc]) ty_44 sz_22 zr_22 (by decide) rfl (.cons (by (conv => lhs; whnf) <;> rfl) .nil) rfl (ones rfl) (fun b57 => ?_))
    refine ⟨⟨(by repeat (first | exact Find.here | assumption | apply Find.there | apply Find.far)), (by repeat (first | exact Find.here | assumption | apply Find.there | apply Find.far))⟩, ?_⟩
    refine TK.one 8 (by decide +kernel) rfl rfl (T1.callX (X := [⟨b57, 0, [.slice va l.length vc], 1⟩]) has_19 rfl (Sum256_any _ _ [l] [⟨b57, 0, [.slice va l.length vc], 1⟩] (PartsR.ones (svs := [.slice va l.length vc]) (size := 1) (by simp) rfl (one_part (PartR.old h))) (one_len (by omega)) (show 1 < 9223372036854775807 by decide) (by simp; omega)) (by repeat (first | exact Take.nil | apply Take.one (by repeat (first | exact Pick.here | apply Pick.there | apply Pick.far)) | apply Take.seg (by repeat (first | exact PickS.last | exact PickS.one | exact PickS.here | exact PickS.nil | apply PickS.there | apply PickS.far)) | exact Take.last (by repeat (first | exact PickS.last | exact PickS.one | exact PickS.here | exact PickS.nil | apply PickS.there | apply PickS.far)))) (fun v Y hY => ?_))
    obtain ⟨rfl, rfl⟩ := hY
    dsimp only [List.cons_append, List.nil_append]
    rw [show ([l] : List (List UInt8)).flatten = l from by simp]
    refine ⟨⟨(by repeat (first | exact Find.here | assumption | apply Find.there | apply Find.far)), (by repeat (first | exact Find.here | assumption | apply Find.there | apply Find.far))⟩, ?_⟩
    refine TK.take 9 rfl (by decide +kernel) (by decide +kernel) (by decide +kernel) rfl (fun _ _ _ h => h) (fun L_ ⟨k1_, k2_⟩ => V1.eqBs (r := true) ty_26 ty_5 sz_5 eg_26 rfl rfl (sha_len _ _) (sha_len _ _) (by simp)) ?_
    refine TK.take 10 rfl (by decide +kernel) (by decide +kernel) (by decide +kernel) rfl (fun _ _ _ h => h) (fun L_ ⟨k1_, k2_⟩ => V1.pick rfl (by (conv => lhs; whnf) <;> rfl)) ?_
    refine TK.take 11 rfl (by decide +kernel) (by decide +kernel) (by decide +kernel) rfl (fun _ _ _ h => h) (fun L_ ⟨k1_, k2_⟩ => V1.move' (by (conv => lhs; whnf) <;> rfl)) ?_
    refine TK.take 12 rfl (by decide +kernel) (by decide +kernel) (by decide +kernel) rfl (fun _ _ _ h => h) (fun L_ ⟨k1_, k2_⟩ => V1.move' (by (conv => lhs; whnf) <;> rfl)) ?_
    refine TK.take 13 rfl (by decide +kernel) (by decide +kernel) (by decide +kernel) rfl (fun _ _ _ h => h) (fun L_ ⟨k1_, k2_⟩ => V1.move' (by (conv => lhs; whnf) <;> rfl)) ?_
    refine TK.take 14 rfl (by decide +kernel) (by decide +kernel) (by decide +kernel) rfl (fun _ _ _ h => h) (fun L_ ⟨k1_, k2_⟩ => V1.lenSl ty_22 rfl) ?_
    refine TK.take 15 rfl (by decide +kernel) (by decide +kernel) (by decide +kernel) rfl (fun _ _ _ h => h) (fun L_ ⟨k1_, k2_⟩ => V1.indexAddrS ty_22 sz_5 rfl rfl (by omega) (by omega)) ?_
    refine TK.take 16 rfl (by decide +kernel) (by decide +kernel) (by decide +kernel) rfl (fun _ _ _ h => h) (fun L_ ⟨k1_, k2_⟩ => V1.load1 one_5 rfl (show Rd _ _ ⟨br, or_ + l.length * 1, none⟩ (byteV 9) from by rw [Nat.mul_one]; exact Rd.at (cells := List.map byteV (ys ++ [9, 8, 7])) (by repeat (first | exact Find.here | assumption | apply Find.there | apply Find.far)) (by rw [List.getElem?_map, List.getElem?_append_right (by omega), show l.length - ys.length = 0 from by omega]; rfl))) ?_
    refine TK.take 17 rfl (by decide +kernel) (by decide +kernel) (by decide +kernel) rfl (fun _ _ _ h => h) (fun L_ ⟨k1_, k2_⟩ => V1.eqI (r := true) rfl rfl (by decide)) ?_
    refine TK.take 18 rfl (by decide +kernel) (by decide +kernel) (by decide +kernel) rfl (fun _ _ _ h => h) (fun L_ ⟨k1_, k2_⟩ => V1.pick rfl (by (conv => lhs; whnf) <;> rfl)) ?_
    refine TK.take 19 rfl (by decide +kernel) (by decide +kernel) (by decide +kernel) rfl (fun _ _ _ h => h) (fun L_ ⟨k1_, k2_⟩ => V1.move' (by (conv => lhs; whnf) <;> rfl)) ?_
    refine TK.take 20 rfl (by decide +kernel) (by decide +kernel) (by decide +kernel) rfl (fun _ _ _ h => h) (fun L_ ⟨k1_, k2_⟩ => V1.move' (by (conv => lhs; whnf) <;> rfl)) ?_
    refine TK.take 21 rfl (by decide +kernel) (by decide +kernel) (by decide +kernel) rfl (fun _ _ _ h => h) (fun L_ ⟨k1_, k2_⟩ => V1.move' (by (conv => lhs; whnf) <;> rfl)) ?_
    refine TK.take 22 rfl (by decide +kernel) (by decide +kernel) (by decide +kernel) rfl (fun _ _ _ h => h) (fun L_ ⟨k1_, k2_⟩ => V1.lenSl ty_22 rfl) ?_
    refine TK.take 23 rfl (by decide +kernel) (by decide +kernel) (by decide +kernel) rfl (fun _ _ _ h => h) (fun L_ ⟨k1_, k2_⟩ => V1.add (c := ((l.length + 2 : Nat) : Int)) rfl rfl (by rw [wrap_i64 _ (by omega) (by omega)]; omega)) ?_
    refine TK.take 24 rfl (by decide +kernel) (by decide +kernel) (by decide +kernel) rfl (fun _ _ _ h => h) (fun L_ ⟨k1_, k2_⟩ => V1.indexAddrS ty_22 sz_5 rfl rfl (by omega) (by omega)) ?_
    refine TK.take 25 rfl (by decide +kernel) (by decide +kernel) (by decide +kernel) rfl (fun _ _ _ h => h) (fun L_ ⟨k1_, k2_⟩ => V1.load1 one_5 rfl (show Rd _ _ ⟨br, or_ + (l.length + 2) * 1, none⟩ (byteV 7) from by rw [Nat.mul_one]; exact Rd.at (cells := List.map byteV (ys ++ [9, 8, 7])) (by repeat (first | exact Find.here | assumption | apply Find.there | apply Find.far)) (by rw [List.getElem?_map, List.getElem?_append_right (by omega), show l.length + 2 - ys.length = 2 from by omega]; rfl))) ?_
    refine TK.take 26 rfl (by decide +kernel) (by decide +kernel) (by decide +kernel) rfl (fun _ _ _ h => h) (fun L_ ⟨k1_, k2_⟩ => V1.eqI (r := true) rfl rfl (by decide)) ?_
    refine TK.take 27 rfl (by decide +kernel) (by decide +kernel) (by decide +kernel) rfl (fun _ _ _ h => h) (fun L_ ⟨k1_, k2_⟩ => V1.pick rfl (by (conv => lhs; whnf) <;> rfl)) ?_
    refine TK.take 28 rfl (by decide +kernel) (by decide +kernel) (by decide +kernel) rfl (fun _ _ _ h => h) (fun L_ ⟨k1_, k2_⟩ => V1.assign' (by (conv => lhs; whnf) <;> rfl)) ?_
    refine TD.done (by decide +kernel) ?_
    refine T.ret ?_
    exact ⟨_, [], _, .cons (.tmp (by (conv => lhs; whnf) <;> rfl)) .nil, Take.nil, rfl⟩

end Go.Proofs.Ytelcmllfojfbfaa.S
