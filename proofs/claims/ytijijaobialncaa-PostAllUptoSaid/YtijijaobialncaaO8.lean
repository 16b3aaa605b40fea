/- A frame is taken out. -/
import Derived.Test.YtijijaobialncaaO7
import Derived.Test.YtijijaobialncaaOpsJ
namespace Go.Proofs.Ytijijaobialncaa.S
open Go.RowKit

set_option maxRecDepth 100000 in
set_option maxHeartbeats 8000000 in
theorem Delete_us (w0 : World) (b off size cap i r : Nat) {xs : List Value} (hone : ∀ u ∈ xs, one u = true) (hl : xs.length = i + 1 + r) (hc : xs.length ≤ cap) (hcs : off + cap ≤ size) (hn : xs.length ≤ 1000) : FnG P 28 [.slice (some ⟨b, off, none⟩) xs.length cap, .int .i64 (i : Nat), .int .i64 ((i + 1 : Nat) : Int)] w0 [] [(⟨b, off, xs, size⟩ : Blk)] (fun v Y => v = .slice (some ⟨b, off, none⟩) (i + r) cap ∧ Y = [(⟨b, off, xs.eraseIdx i, size⟩ : Blk)]) := by
  have hpe := put_erase hl
  refine FnG.of 33 [.tmp 6] Go.Proofs.Try.func28 rfl rfl rfl rfl (fun G hG => ?_)
  simp only [List.cons_append, List.nil_append]
  refine T.seq ?_
  refine T.region ?_
  refine TL.cons rfl (V1.t (V1.assign' z_B) ?_)
  refine TL.nil ?_
  refine T.seq ?_
  refine T.region ?_
  refine TL.cons rfl (V1.t (V1.move' z_B) ?_)
  refine TL.cons rfl (V1.t (V1.move' z_B) ?_)
  refine TL.cons rfl (V1.t (V1.move' z_B) ?_)
  refine TL.cons rfl (V1.t (V1.move' z_B) ?_)
  refine TL.cons rfl (V1.t (V1.lenSl ty_34 rfl) ?_)
  refine TL.cons rfl (V1.t (V1.slice3r (i := i) (j := i + 1) (n := xs.length) ty_34 sz_29 rfl rfl rfl rfl (by omega) (by omega) (by omega)) ?_)
  refine TL.nil ?_
  refine T.seq ?_
  refine T.seq ?_
  refine T.region ?_
  refine TL.cons rfl (V1.t (V1.move' z_B) ?_)
  refine TL.cons rfl (V1.t (V1.move' z_B) ?_)
  refine TL.cons rfl (V1.t (V1.eqI (r := false) rfl rfl (decide_eq_false (by omega))) ?_)
  refine TL.nil ?_
  refine T.cond_f rfl ?_
  refine T.skip ?_
  refine T.seq ?_
  refine T.region ?_
  refine TL.cons rfl (V1.t (V1.move' z_B) ?_)
  refine TL.cons rfl (V1.t (V1.lenSl ty_34 rfl) ?_)
  refine TL.cons rfl (V1.t (V1.assign' z_B) ?_)
  refine TL.nil ?_
  refine T.seq ?_
  refine T.drawTail 6 mixed z_F (by rfl) z_F rfl ?_
  refine Det.cons 0 (ins := [(0, _)]) (.old z_B z_F .nil) (fun e_ => .inl ⟨rfl, V1.t (V1.move' z_B) ⟨rfl, rfl⟩⟩) ?_
  refine Det.cons 1 (ins := [(1, _)]) (.old z_B z_F .nil) (fun e_ => .inl ⟨rfl, V1.t (V1.move' z_B) ⟨rfl, rfl⟩⟩) ?_
  refine Det.cons 2 (ins := [(20, _), (21, _)]) (.new 0 1 z_F rfl rfl (.new 1 0 z_F rfl rfl .nil)) (fun e_ => .inl ⟨rfl, V1.t (V1.sliceK2 0 i i cap ty_34 sz_29 rfl rfl rfl (by omega) (by omega) (by omega) rfl rfl) ⟨rfl, rfl⟩⟩) ?_
  refine Det.cons 3 (ins := [(0, _)]) (.old z_B z_F .nil) (fun e_ => .inl ⟨rfl, V1.t (V1.move' z_B) ⟨rfl, rfl⟩⟩) ?_
  refine Det.cons 4 (ins := [(2, _)]) (.old z_B z_F .nil) (fun e_ => .inl ⟨rfl, V1.t (V1.move' z_B) ⟨rfl, rfl⟩⟩) ?_
  refine Det.cons 5 (ins := [(23, _), (24, _)]) (.new 3 1 z_F rfl rfl (.new 4 0 z_F rfl rfl .nil)) (fun e_ => .inl ⟨rfl, V1.t (V1.sliceAny2 (i + 1) xs.length r (cap - (i + 1)) ty_34 sz_29 rfl rfl rfl (by omega) (by omega) (by omega) rfl) ⟨rfl, rfl⟩⟩) ?_
  refine Det.nil 6 (l := [(7, _), (22, _), (25, _)]) (.old z_B z_F (.new 2 3 z_F rfl rfl (.new 5 0 z_F rfl rfl .nil))) (fun e_ => ?_)
  refine (show TU _ _ _ 2 _ _ _ from ?_)
  refine TU.one 6 z_F rfl rfl (T1.appendSelf (i := i) (xs := xs) (off := off) (size := size) (cap := cap) ty_34 kd_34 sz_29 by_29 rfl rfl (Src.tail (i := i + 1) z_D (by omega) hc) (fun u hu => hone u (List.mem_of_mem_drop hu)) (by omega) hcs (by omega) z_H ?_)
  refine TU.one 7 z_F rfl rfl (V1.t (V1.assign' z_B) ?_)
  refine TU.done z_F ?_
  refine T.seq ?_
  refine T.region ?_
  refine TL.cons rfl (V1.t (V1.move' z_B) ?_)
  refine TL.cons rfl (V1.t (V1.move' z_B) ?_)
  refine TL.cons rfl (V1.t (V1.lenSl ty_34 rfl) ?_)
  refine TL.cons rfl (V1.t (V1.move' z_B) ?_)
  refine TL.cons rfl (V1.t (V1.sliceK2 (i + r) xs.length 1 (cap - (i + r)) ty_34 sz_29 rfl rfl rfl (by omega) (by omega) (by omega) (by omega) rfl) ?_)
  refine TL.cons rfl (T1.clearTail (off := off) (size := size) (m := i + r) (cells := putN xs i (xs.drop (i + 1))) (z := .slice none 0 0) ty_34 zr_29 (ones rfl) rfl (by omega) (by omega) (by rw [hpe.2]; show i + r + 1 * 1 = _; omega) z_H ?_)
  refine TL.nil ?_
  refine T.seq ?_
  refine T.region ?_
  refine TL.cons rfl (V1.t (V1.move' z_B) ?_)
  refine TL.cons rfl (V1.t (V1.assign' z_B) ?_)
  refine TL.nil ?_
  refine T.ret ?_
  rw [hpe.1]
  exact ⟨_, _ :: G, _, .cons (.tmp z_B) .nil, z_A, [_], rfl, rfl, rfl⟩

theorem Delete_any (w0 : World) {a : Option Addr} {n c i : Nat} {xs : List Value} {X : List Blk} (h : Sl (.slice a n c) xs 1 X) (hone : ∀ u ∈ xs, one u = true) (hi : i < xs.length) (hn : xs.length ≤ 1000) : FnG P 28 [.slice a n c, .int .i64 (i : Nat), .int .i64 ((i + 1 : Nat) : Int)] w0 [] X (fun v Y => Sl v (xs.eraseIdx i) 1 Y) := by
  rcases h with ⟨e, h2, _⟩ | ⟨b, off, len, cap, size, e, h1, h2, h3, rfl⟩
  · subst h2; simp at hi
  · injection e with e1 e2 e3
    subst e1; subst e2; subst e3
    obtain rfl : n = xs.length := by omega
    refine (Delete_us w0 b off size c i (xs.length - (i + 1)) hone (by omega) h2 (by omega) hn).mono fun v Y h => ?_
    obtain ⟨rfl, rfl⟩ := h
    exact .inr ⟨b, off, i + (xs.length - (i + 1)), c, size, rfl, by rw [List.length_eraseIdx, if_pos hi]; omega, by omega, h3, rfl⟩
/-- What Take hands back. -/
def TakR (r : Option (List UInt8)) (v : Value) (Y : List Blk) : Prop := match r with
  | none => v = .tuple #[.slice none 0 0, .int .i64 4] ∧ Y = []
  | some l => ∃ s, v = .tuple #[s, .int .i64 0] ∧ Sl s (l.map byteV) 1 Y
theorem takeP_none {ps : List Pr} {n : Nat} {i : Int} (h : findP ps n = none) : takeP ps n i = (ps, none) := by unfold takeP; rw [h]
theorem takeP_out {ps : List Pr} {n : Nat} {i : Int} {d : Pr} (h : findP ps n = some d) (h2 : ¬ (0 ≤ i ∧ i < (d.box.length : Nat))) : takeP ps n i = (ps, none) := by unfold takeP; rw [h]; dsimp only; rw [if_neg h2]
theorem takeP_ok {ps : List Pr} {n j : Nat} {d : Pr} {l : List UInt8} (h : findP ps n = some d) (h2 : d.box[j]? = some l) : takeP ps n (j : Nat) = (setP ps (d.take j), some l) := by
  have := (List.getElem?_eq_some_iff.1 h2).1
  unfold takeP; rw [h]; dsimp only; rw [if_pos (by omega), Int.toNat_natCast, h2]
set_option maxRecDepth 100000 in
set_option maxHeartbeats 8000000 in
theorem Take_any (w0 : World) {p : Nat} {ps : List Pr} {X : List Blk} (h : SrvO p ps X) (n : Nat) (i : Int) : FnG P 13 [.pointer (some ⟨p, 0, none⟩), u32V n, .int .i64 i] w0 [] X (fun v Y => ∃ Yf Ys, Y = Yf ++ Ys ∧ SrvO p (takeP ps n i).1 Ys ∧ TakR (takeP ps n i).2 v Yf) := by
  obtain ⟨b, ms, Z, hX, hZ, rfl, hok⟩ := h
  refine FnG.perm hX ?_
  refine FnG.of 65 [.tmp 6, .tmp 7] Go.Proofs.Try.func13 rfl rfl rfl rfl (fun G hG => ?_)
  simp only [List.cons_append]
  refine T.seq ?_
  refine T.region ?_
  refine TL.cons rfl (V1.t (V1.assign' z_B) ?_)
  refine TL.cons rfl (V1.t (V1.assign' z_B) ?_)
  refine TL.nil ?_
  refine T.seq ?_
  refine T.region ?_
  refine TL.cons rfl (V1.t (V1.move' z_B) ?_)
  refine TL.cons rfl (V1.t (V1.nilCheck rfl) ?_)
  refine TL.cons rfl (V1.t (V1.fieldAddr fl_65_0 rfl) ?_)
  refine TL.cons rfl (V1.t (V1.load1 one_63 rfl (.own z_D (by rfl))) ?_)
  refine TL.cons rfl (V1.t (V1.move' z_B) ?_)
  refine TL.cons rfl (V1.t (V1.lookup (q := qU n) (kv := (kvM ms).map fun x => (u32V x.1, x.2)) (v := ptrM (atM ms n)) ty_63 zr_66 ty_27 rfl rfl rfl z_D (kvM_now _ _) (kvM_find _ _ _)) ?_)
  rcases hat : atM ms n with _ | ⟨pb, d⟩
  ·
    have hfn := atM_none hat
    refine TL.cons rfl (V1.t (V1.assign' z_B) ?_)
    refine TL.nil ?_
    refine T.seq ?_
    refine T.seq ?_
    refine T.region ?_
    refine TL.cons rfl (V1.t (V1.move' z_B) ?_)
    refine TL.cons rfl (V1.t (V1.eqPn ty_66 rfl rfl) ?_)
    refine TL.cons rfl (V1.t (V1.move' z_B) ?_)
    refine TL.no rfl ?_
    refine TL.no rfl ?_
    refine TL.cons rfl (V1.t (V1.pick rfl z_B) ?_)
    refine TL.cons rfl (V1.t (V1.move' z_B) ?_)
    refine TL.no rfl ?_
    refine TL.no rfl ?_
    refine TL.no rfl ?_
    refine TL.no rfl ?_
    refine TL.no rfl ?_
    refine TL.no rfl ?_
    refine TL.no rfl ?_
    refine TL.no rfl ?_
    refine TL.cons rfl (V1.t (V1.pick rfl z_B) ?_)
    refine TL.nil ?_
    refine T.cond_t rfl ?_
    refine T.seq ?_
    refine T.live (l := []) .nil (fun e_ => ?_)
    refine T.region ?_
    refine TL.cons rfl (V1.t (V1.assign' z_B) ?_)
    refine TL.cons rfl (V1.t (V1.assign' z_B) ?_)
    refine TL.nil ?_
    refine T.ret ?_
    exact ⟨_, (⟨p, 0, [.map (some b)], 1⟩ : Blk) :: mapM b ms :: (Z ++ G), _, .cons (.tmp z_B) (.cons (.tmp z_B) .nil), z_A, (⟨p, 0, [.map (some b)], 1⟩ : Blk) :: mapM b ms :: Z, rfl, [], _, rfl, by rw [takeP_none hfn]; exact ⟨b, ms, Z, List.Perm.refl _, hZ, rfl, hok⟩, by rw [takeP_none hfn]; exact ⟨rfl, rfl⟩⟩
  ·
    obtain ⟨A, B, rfl, hdn, hfp⟩ := atM_some hat
    obtain ⟨XA, X1, XB, rfl, hpr, hback⟩ := hZ.at
    obtain ⟨ov, sv, fv, cs, vs, Xo, Xr, Xc, Xb, Xl, ho, hs, hc, hbx, hl, rfl⟩ := hpr
    obtain ⟨sa, sc, rfl⟩ := hs.of hc.len (by decide)
    obtain ⟨fa, fc, rfl⟩ := hbx.of (n := d.box.length) (by rw [Nat.mul_one]; exact hl.len) (by decide)
    have hdo := hok.each d (by simp)
    have hdb := hdo.bytes
    have hdx := hdo.box
    have hdf := hdo.few
    simp only [List.append_assoc, List.cons_append]
    refine TL.cons rfl (V1.t (V1.assign' z_B) ?_)
    refine TL.nil ?_
    refine T.seq ?_
    refine T.seq ?_
    refine T.region ?_
    refine TL.cons rfl (V1.t (V1.move' z_B) ?_)
    refine TL.cons rfl (V1.t (V1.eqPn ty_66 rfl rfl) ?_)
    refine TL.cons rfl (V1.t (V1.move' z_B) ?_)
    refine TL.cons rfl (V1.t (V1.move' z_B) ?_)
    refine TL.cons rfl (T1.ltI_split rfl rfl (fun h2_4 => ?_) (fun h2_4 => ?_))
    ·
      refine TL.cons rfl (V1.t (V1.pick rfl z_B) ?_)
      refine TL.cons rfl (V1.t (V1.move' z_B) ?_)
      refine TL.no rfl ?_
      refine TL.no rfl ?_
      refine TL.no rfl ?_
      refine TL.no rfl ?_
      refine TL.no rfl ?_
      refine TL.no rfl ?_
      refine TL.no rfl ?_
      refine TL.no rfl ?_
      refine TL.cons rfl (V1.t (V1.pick rfl z_B) ?_)
      refine TL.nil ?_
      refine T.cond_t rfl ?_
      refine T.seq ?_
      refine T.live (l := []) .nil (fun e_ => ?_)
      refine T.region ?_
      refine TL.cons rfl (V1.t (V1.assign' z_B) ?_)
      refine TL.cons rfl (V1.t (V1.assign' z_B) ?_)
      refine TL.nil ?_
      refine T.ret ?_
      exact ⟨_, (⟨p, 0, [.map (some b)], 1⟩ : Blk) :: mapM b (A ++ (pb, d) :: B) :: (XA ++ ((⟨pb, 0, [ov, .slice sa d.once.length sc, .slice fa d.box.length fc, .int .i64 (d.bytes : Nat)], 4⟩ : Blk) :: (Xo ++ (Xr ++ (Xc ++ (Xb ++ (Xl ++ (XB ++ G)))))))), _, .cons (.tmp z_B) (.cons (.tmp z_B) .nil), z_A, (⟨p, 0, [.map (some b)], 1⟩ : Blk) :: mapM b (A ++ (pb, d) :: B) :: (XA ++ (((⟨pb, 0, [ov, .slice sa d.once.length sc, .slice fa d.box.length fc, .int .i64 (d.bytes : Nat)], 4⟩ : Blk) :: (Xo ++ (Xr ++ (Xc ++ (Xb ++ Xl))))) ++ XB)), by simp only [List.append_assoc, List.cons_append], [], _, rfl, by rw [takeP_out hfp (by omega)]; exact ⟨b, _, _, List.Perm.refl _, hZ, rfl, hok⟩, by rw [takeP_out hfp (by omega)]; exact ⟨rfl, rfl⟩⟩
    ·
      refine TL.cons rfl (V1.t (V1.pick rfl z_B) ?_)
      refine TL.cons rfl (V1.t (V1.move' z_B) ?_)
      refine TL.cons rfl (V1.t (V1.move' z_B) ?_)
      refine TL.cons rfl (V1.t (V1.move' z_B) ?_)
      refine TL.cons rfl (V1.t (V1.nilCheck rfl) ?_)
      refine TL.cons rfl (V1.t (V1.fieldAddr fl_71_2 rfl) ?_)
      refine TL.cons rfl (V1.t (V1.fieldAddr fl_69_0 rfl) ?_)
      refine TL.cons rfl (V1.t (V1.load1 (v := .slice fa d.box.length fc) one_34 rfl (.own (cells := [ov, .slice sa d.once.length sc, .slice fa d.box.length fc, .int .i64 (d.bytes : Nat)]) z_D (by rfl))) ?_)
      refine TL.cons rfl (V1.t (V1.lenSl ty_34 rfl) ?_)
      refine TL.cons rfl (T1.geI_split rfl rfl (fun h2_14 => ?_) (fun h2_14 => ?_))
      ·
        refine TL.cons rfl (V1.t (V1.pick rfl z_B) ?_)
        refine TL.nil ?_
        refine T.cond_t rfl ?_
        refine T.seq ?_
        refine T.live (l := []) .nil (fun e_ => ?_)
        refine T.region ?_
        refine TL.cons rfl (V1.t (V1.assign' z_B) ?_)
        refine TL.cons rfl (V1.t (V1.assign' z_B) ?_)
        refine TL.nil ?_
        refine T.ret ?_
        exact ⟨_, (⟨p, 0, [.map (some b)], 1⟩ : Blk) :: mapM b (A ++ (pb, d) :: B) :: (XA ++ ((⟨pb, 0, [ov, .slice sa d.once.length sc, .slice fa d.box.length fc, .int .i64 (d.bytes : Nat)], 4⟩ : Blk) :: (Xo ++ (Xr ++ (Xc ++ (Xb ++ (Xl ++ (XB ++ G)))))))), _, .cons (.tmp z_B) (.cons (.tmp z_B) .nil), z_A, (⟨p, 0, [.map (some b)], 1⟩ : Blk) :: mapM b (A ++ (pb, d) :: B) :: (XA ++ (((⟨pb, 0, [ov, .slice sa d.once.length sc, .slice fa d.box.length fc, .int .i64 (d.bytes : Nat)], 4⟩ : Blk) :: (Xo ++ (Xr ++ (Xc ++ (Xb ++ Xl))))) ++ XB)), by simp only [List.append_assoc, List.cons_append], [], _, rfl, by rw [takeP_out hfp (by omega)]; exact ⟨b, _, _, List.Perm.refl _, hZ, rfl, hok⟩, by rw [takeP_out hfp (by omega)]; exact ⟨rfl, rfl⟩⟩
      ·
        refine TL.cons rfl (V1.t (V1.pick rfl z_B) ?_)
        refine TL.nil ?_
        refine T.cond_f rfl ?_
        refine T.skip ?_
        refine T.seq ?_
        refine T.live (l := [(2, _), (8, _)]) (.cons z_B (.cons z_B .nil)) (fun e_ => ?_)
        refine T.region ?_
        refine TL.cons rfl (V1.t (V1.move' z_B) ?_)
        obtain ⟨j, rfl⟩ : ∃ j : Nat, i = j := ⟨i.toNat, by omega⟩
        obtain ⟨l, hl0⟩ : ∃ l, d.box[j]? = some l := ⟨_, List.getElem?_eq_getElem (by omega)⟩
        have hsum := sum_erase hl0
        obtain ⟨u, XA2, Y2, XB2, hvu, rfl, hsu, hbt⟩ := hl.at hl0
        obtain ⟨rb, ro, rsz, rfl, rfl, hrc⟩ := hbx.someK (by omega)
        obtain ⟨ua, uc, rfl⟩ := hsu.of (n := l.length) (by rw [List.length_map, Nat.mul_one]) (by decide)
        simp only [List.append_assoc, List.cons_append, List.nil_append]
        refine TL.cons rfl (V1.t (V1.nilCheck rfl) ?_)
        refine TL.cons rfl (V1.t (V1.fieldAddr fl_71_2 rfl) ?_)
        refine TL.cons rfl (V1.t (V1.fieldAddr fl_69_0 rfl) ?_)
        refine TL.cons rfl (V1.t (V1.load1 (v := .slice (some ⟨rb, ro, none⟩) d.box.length fc) one_34 rfl (.own (cells := [ov, .slice sa d.once.length sc, .slice (some ⟨rb, ro, none⟩) d.box.length fc, .int .i64 (d.bytes : Nat)]) z_D (by rfl))) ?_)
        refine TL.cons rfl (V1.t (V1.move' z_B) ?_)
        refine TL.cons rfl (V1.t (V1.indexAddrS ty_34 sz_29 rfl rfl (by omega) (by omega)) ?_)
        refine TL.cons rfl (V1.t (V1.load1 (v := .slice ua l.length uc) one_29 rfl (ib_rd (cs := vs) (k := j) z_D hvu)) ?_)
        refine TL.cons rfl (V1.t (V1.assign' z_B) ?_)
        refine TL.nil ?_
        refine T.seq ?_
        refine T.region ?_
        refine TL.cons rfl (V1.t (V1.move' z_B) ?_)
        refine TL.cons rfl (V1.t (V1.move' z_B) ?_)
        refine TL.cons rfl (V1.t (V1.nilCheck rfl) ?_)
        refine TL.cons rfl (V1.t (V1.fieldAddr fl_71_2 rfl) ?_)
        refine TL.cons rfl (V1.t (V1.fieldAddr fl_69_0 rfl) ?_)
        refine TL.cons rfl (V1.t (V1.load1 (v := .slice (some ⟨rb, ro, none⟩) d.box.length fc) one_34 rfl (.own (cells := [ov, .slice sa d.once.length sc, .slice (some ⟨rb, ro, none⟩) d.box.length fc, .int .i64 (d.bytes : Nat)]) z_D (by rfl))) ?_)
        refine TL.cons rfl (V1.t (V1.move' z_B) ?_)
        refine TL.cons rfl (V1.t (V1.move' z_B) ?_)
        refine TL.cons rfl (V1.t (V1.add (c := ((j + 1 : Nat) : Int)) rfl rfl (by rw [wrap_i64 _ (by omega) (by omega)]; omega)) ?_)
        refine TL.cons rfl (T1.callM (X := [⟨rb, ro, vs, rsz⟩]) has_28 rfl rfl (Delete_any w0 hbx hl.one (by rw [hl.len]; omega) (by rw [hl.len]; omega)) z_A z_E (fun f2 Xb2 hf2 => ?_))
        refine TL.cons rfl (V1.t (V1.nilCheck rfl) ?_)
        refine TL.cons rfl (V1.t (V1.fieldAddr fl_71_2 rfl) ?_)
        refine TL.cons rfl (V1.t (V1.fieldAddr fl_69_0 rfl) ?_)
        refine TL.cons rfl (T1.store1 rfl rfl sz_34 hf2.one z_H (Nat.zero_le _) z_J ?_)
        refine TL.nil ?_
        refine T.seq ?_
        refine T.live (l := [(8, _), (9, _)]) (.cons z_B (.cons z_B .nil)) (fun e_ => ?_)
        refine T.region ?_
        refine TL.cons rfl (V1.t (V1.move' z_B) ?_)
        refine TL.cons rfl (V1.t (V1.nilCheck rfl) ?_)
        refine TL.cons rfl (V1.t (V1.fieldAddr fl_71_2 rfl) ?_)
        refine TL.cons rfl (V1.t (V1.fieldAddr fl_69_1 rfl) ?_)
        refine TL.cons rfl (V1.t (V1.load1 (v := .int .i64 (d.bytes : Nat)) one_3 rfl (.own (cells := [ov, .slice sa d.once.length sc, f2, .int .i64 (d.bytes : Nat)]) z_D (by rfl))) ?_)
        refine TL.cons rfl (V1.t (V1.move' z_B) ?_)
        refine TL.cons rfl (V1.t (V1.lenSl ty_29 rfl) ?_)
        refine TL.cons rfl (V1.t (V1.sub (c := (((d.take j).bytes : Nat) : Int)) rfl rfl (by have e1 : (d.take j).bytes = ((d.box.eraseIdx j).map List.length).sum := rfl; have e2 : d.bytes = (d.box.map List.length).sum := rfl; rw [wrap_i64 _ (by omega) (by omega)]; omega)) ?_)
        refine TL.cons rfl (V1.t (V1.nilCheck rfl) ?_)
        refine TL.cons rfl (V1.t (V1.fieldAddr fl_71_2 rfl) ?_)
        refine TL.cons rfl (V1.t (V1.fieldAddr fl_69_1 rfl) ?_)
        refine TL.cons rfl (T1.store1 rfl rfl sz_3 rfl z_H (Nat.zero_le _) z_J ?_)
        refine TL.nil ?_
        refine T.seq ?_
        refine T.region ?_
        refine TL.cons rfl (V1.t (V1.move' z_B) ?_)
        refine TL.cons rfl (V1.t (V1.assign' z_B) ?_)
        refine TL.cons rfl (V1.t (V1.assign' z_B) ?_)
        refine TL.nil ?_
        refine T.ret ?_
        have hpo : PrO pb (d.take j) ((⟨pb, 0, [ov, .slice sa d.once.length sc, f2, .int .i64 ((d.take j).bytes : Nat)], 4⟩ : Blk) :: (Xo ++ (Xr ++ (Xc ++ (Xb2 ++ (XA2 ++ XB2)))))) := ⟨_, _, _, _, _, Xo, _, _, _, _, ho, hs, hc, hf2, hbt, rfl⟩
        exact ⟨_, Y2 ++ ((⟨p, 0, [.map (some b)], 1⟩ : Blk) :: mapM b (A ++ (pb, d) :: B) :: (XA ++ ((⟨pb, 0, [ov, .slice sa d.once.length sc, f2, .int .i64 ((d.take j).bytes : Nat)], 4⟩ : Blk) :: (Xo ++ (Xr ++ (Xc ++ (Xb2 ++ (XA2 ++ (XB2 ++ (XB ++ G)))))))))), _, .cons (.tmp z_B) (.cons (.tmp z_B) .nil), z_A, Y2 ++ ((⟨p, 0, [.map (some b)], 1⟩ : Blk) :: mapM b (A ++ (pb, d) :: B) :: (XA ++ (((⟨pb, 0, [ov, .slice sa d.once.length sc, f2, .int .i64 ((d.take j).bytes : Nat)], 4⟩ : Blk) :: (Xo ++ (Xr ++ (Xc ++ (Xb2 ++ (XA2 ++ XB2)))))) ++ XB))), by simp only [List.append_assoc, List.cons_append], Y2, _, rfl, by rw [takeP_ok hfp hl0]; exact SrvO.set hok rfl (Pr.take_ok hdo hl0) (hback _ _ hpo), by rw [takeP_ok hfp hl0]; exact ⟨_, rfl, hsu⟩⟩

end Go.Proofs.Ytijijaobialncaa.S
