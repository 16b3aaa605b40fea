/- An offer is fetched. -/
import Derived.Test.YtijijaobialncaaO6
namespace Go.Proofs.Ytijijaobialncaa.S
open Go.RowKit

/-- What Fetch hands back. -/
def FetR (r : Option Frm) (v : Value) (Y : List Blk) : Prop := match r with
  | none => v = .tuple #[.agg (List.toArray [.int .i64 0, .slice none 0 0, .slice none 0 0, .slice none 0 0, .slice none 0 0]), .int .i64 4] ∧ Y = []
  | some f => ∃ cs, v = .tuple #[.agg cs.toArray, .int .i64 0] ∧ FrmO cs f Y
theorem fetchP_none {ps : List Pr} {n : Nat} (h : findP ps n = none) : fetchP ps n = (ps, none) := by unfold fetchP; rw [h]
theorem fetchP_bare {ps : List Pr} {n : Nat} {d : Pr} (h : findP ps n = some d) (h2 : d.offer = none) : fetchP ps n = (ps, none) := by unfold fetchP; rw [h]; dsimp only; rw [h2]
theorem fetchP_last {ps : List Pr} {n : Nat} {d : Pr} {o : Frm} (h : findP ps n = some d) (h2 : d.offer = some o) (h3 : d.once = []) : fetchP ps n = (ps, some o) := by unfold fetchP; rw [h]; dsimp only; rw [h2]; dsimp only; rw [h3]
theorem fetchP_once {ps : List Pr} {n : Nat} {d : Pr} {o f : Frm} {fs : List Frm} (h : findP ps n = some d) (h2 : d.offer = some o) (h3 : d.once = f :: fs) : fetchP ps n = (setP ps { d with once := fs }, some f) := by unfold fetchP; rw [h]; dsimp only; rw [h2]; dsimp only; rw [h3]
theorem fetch_cases (ms : List (Nat × Pr)) (n : Nat) : atM ms n = none ∨ (∃ pb d, atM ms n = some (pb, d) ∧ d.offer = none) ∨ (∃ pb d o, atM ms n = some (pb, d) ∧ d.offer = some o ∧ d.once = []) ∨ ∃ pb d o f fs, atM ms n = some (pb, d) ∧ d.offer = some o ∧ d.once = f :: fs := by
  rcases atM ms n with _ | ⟨pb, d⟩
  · exact .inl rfl
  · cases h1 : d.offer with
    | none => exact .inr (.inl ⟨pb, d, rfl, h1⟩)
    | some o => cases h2 : d.once with
      | nil => exact .inr (.inr (.inl ⟨pb, d, o, rfl, h1, h2⟩))
      | cons f fs => exact .inr (.inr (.inr ⟨pb, d, o, f, fs, rfl, h1, h2⟩))
theorem Pr.once_ok {d : Pr} {f : Frm} {fs : List Frm} (h : d.Ok) (h3 : d.once = f :: fs) : ({ d with once := fs } : Pr).Ok :=
  ⟨h.name, h.offer, fun g hg => h.once g (by rw [h3]; exact List.mem_cons_of_mem _ hg), by have := h.few; rw [h3, List.length_cons] at this; show fs.length ≤ 100; omega, h.box, h.bytes⟩
theorem FrmsO.head {cs : List Value} {f : Frm} {fs : List Frm} {X : List Blk} (h : FrmsO cs (f :: fs) X) : ∃ c1 c2 X1 X2, cs = c1 ++ c2 ∧ X = X1 ++ X2 ∧ FrmO c1 f X1 ∧ FrmsO c2 fs X2 := by
  cases h with
  | cons h1 h2 => exact ⟨_, _, _, _, rfl, rfl, h1, h2⟩
set_option maxRecDepth 100000 in
set_option maxHeartbeats 8000000 in
theorem Fetch_any (w0 : World) {p : Nat} {ps : List Pr} {X : List Blk} (h : SrvO p ps X) (n : Nat) : FnG P 18 [.pointer (some ⟨p, 0, none⟩), u32V n] w0 [] X (fun v Y => ∃ Yf Ys, Y = Yf ++ Ys ∧ SrvO p (fetchP ps n).1 Ys ∧ FetR (fetchP ps n).2 v Yf) := by
  obtain ⟨b, ms, Z, hX, hZ, rfl, hok⟩ := h
  refine FnG.perm hX ?_
  refine FnG.of 54 [.cell 4 39, .tmp 5] Go.Proofs.Try.func18 rfl rfl rfl rfl (fun G hG => ?_)
  simp only [List.cons_append]
  refine T.seq ?_
  refine T.region ?_
  refine TL.cons rfl (T1.allocN 5 zr_39 rfl (fun b4 => ?_))
  refine TL.cons rfl (V1.t (V1.assign' z_B) ?_)
  refine TL.nil ?_
  refine T.seq ?_
  refine T.region ?_
  refine TL.cons rfl (V1.t (V1.move' z_B) ?_)
  refine TL.cons rfl (V1.t (V1.nilCheck rfl) ?_)
  refine TL.cons rfl (V1.t (V1.fieldAddr fl_65_0 rfl) ?_)
  refine TL.cons rfl (V1.t (V1.load1 one_63 rfl (.own z_D (by rfl))) ?_)
  refine TL.cons rfl (V1.t (V1.move' z_B) ?_)
  refine TL.cons rfl (V1.t (V1.lookup (q := qU n) (kv := (kvM ms).map fun x => (u32V x.1, x.2)) (v := ptrM (atM ms n)) ty_63 zr_66 ty_27 rfl rfl rfl z_D (kvM_now _ _) (kvM_find _ _ _)) ?_)
  rcases fetch_cases ms n with hat | ⟨pb, d, hat, hof0⟩ | ⟨pb, d, o1, hat, hof0, hon0⟩ | ⟨pb, d, o1, f1, fs1, hat, hof0, hon0⟩ <;> rw [hat]
  ·
    have hfn := atM_none hat
    refine TL.cons rfl (V1.t (V1.assign' z_B) ?_)
    refine TL.nil ?_
    refine T.seq ?_
    refine T.block ?_
    refine T.seq ?_
    refine T.region ?_
    refine TL.cons rfl (V1.t (V1.move' z_B) ?_)
    refine TL.cons rfl (V1.t (V1.eqPn ty_66 rfl rfl) ?_)
    refine TL.cons rfl (V1.t (V1.move' z_B) ?_)
    refine TL.no rfl ?_
    refine TL.no rfl ?_
    refine TL.no rfl ?_
    refine TL.no rfl ?_
    refine TL.no rfl ?_
    refine TL.cons rfl (V1.t (V1.pick rfl z_B) ?_)
    refine TL.cons rfl (V1.t (V1.assign' z_B) ?_)
    refine TL.nil ?_
    refine T.cond_t rfl ?_
    refine T.seq ?_
    refine T.live (l := [(4, _)]) (.cons z_B .nil) (fun e_ => ?_)
    refine T.region ?_
    refine TL.cons rfl (V1.t (V1.build0 pl_39 zr_39) ?_)
    refine TL.cons rfl (T1.storeN rfl rfl sz_39 (ones rfl) z_H (by rfl) (by rfl) ?_)
    refine TL.cons rfl (V1.t (V1.assign' z_B) ?_)
    refine TL.nil ?_
    refine T.ret ?_
    exact ⟨_, (⟨p, 0, [.map (some b)], 1⟩ : Blk) :: mapM b ms :: (Z ++ G), _, .cons (.cellN rfl one_39 sz_39 (RdN.whole z_D) (by rfl)) (.cons (.tmp z_B) .nil), z_A, (⟨p, 0, [.map (some b)], 1⟩ : Blk) :: mapM b ms :: Z, rfl, [], _, rfl, by rw [fetchP_none hfn]; exact ⟨b, ms, Z, List.Perm.refl _, hZ, rfl, hok⟩, by rw [fetchP_none hfn]; exact ⟨rfl, rfl⟩⟩
  ·
    obtain ⟨A, B, rfl, hdn, hfp⟩ := atM_some hat
    obtain ⟨XA, X1, XB, rfl, hpr, hback⟩ := hZ.at
    obtain ⟨ov, sv, fv, cs, vs, Xo, Xr, Xc, Xb, Xl, ho, hs, hc, hbx, hl, rfl⟩ := hpr
    obtain ⟨sa, sc, rfl⟩ := hs.of hc.len (by decide)
    obtain ⟨fa, fc, rfl⟩ := hbx.of (n := d.box.length) (by rw [Nat.mul_one]; exact hl.len) (by decide)
    have hdo := hok.each d (by simp)
    have hdb := hdo.bytes
    have hdx := hdo.box
    have hdf := hdo.few
    have hof : d.offer = none := hof0
    rw [hof] at ho
    obtain ⟨rfl, rfl⟩ := ho
    simp only [List.append_assoc, List.cons_append]
    simp only [List.nil_append]
    refine TL.cons rfl (V1.t (V1.assign' z_B) ?_)
    refine TL.nil ?_
    refine T.seq ?_
    refine T.block ?_
    refine T.seq ?_
    refine T.region ?_
    refine TL.cons rfl (V1.t (V1.move' z_B) ?_)
    refine TL.cons rfl (V1.t (V1.eqPn ty_66 rfl rfl) ?_)
    refine TL.cons rfl (V1.t (V1.move' z_B) ?_)
    refine TL.cons rfl (V1.t (V1.move' z_B) ?_)
    refine TL.cons rfl (V1.t (V1.nilCheck rfl) ?_)
    refine TL.cons rfl (V1.t (V1.fieldAddr fl_71_0 rfl) ?_)
    refine TL.cons rfl (V1.t (V1.load1 (v := .pointer none) one_67 rfl (.own (cells := [.pointer none, .slice sa d.once.length sc, .slice fa d.box.length fc, .int .i64 (d.bytes : Nat)]) z_D (by rfl))) ?_)
    refine TL.cons rfl (V1.t (V1.eqPn ty_67 rfl rfl) ?_)
    refine TL.cons rfl (V1.t (V1.pick rfl z_B) ?_)
    refine TL.cons rfl (V1.t (V1.assign' z_B) ?_)
    refine TL.nil ?_
    refine T.cond_t rfl ?_
    refine T.seq ?_
    refine T.live (l := [(4, _)]) (.cons z_B .nil) (fun e_ => ?_)
    refine T.region ?_
    refine TL.cons rfl (V1.t (V1.build0 pl_39 zr_39) ?_)
    refine TL.cons rfl (T1.storeN rfl rfl sz_39 (ones rfl) z_H (by rfl) (by rfl) ?_)
    refine TL.cons rfl (V1.t (V1.assign' z_B) ?_)
    refine TL.nil ?_
    refine T.ret ?_
    exact ⟨_, (⟨p, 0, [.map (some b)], 1⟩ : Blk) :: mapM b (A ++ (pb, d) :: B) :: (XA ++ ((⟨pb, 0, [.pointer none, .slice sa d.once.length sc, .slice fa d.box.length fc, .int .i64 (d.bytes : Nat)], 4⟩ : Blk) :: (Xr ++ (Xc ++ (Xb ++ (Xl ++ (XB ++ G))))))), _, .cons (.cellN rfl one_39 sz_39 (RdN.whole z_D) (by rfl)) (.cons (.tmp z_B) .nil), z_A, (⟨p, 0, [.map (some b)], 1⟩ : Blk) :: mapM b (A ++ (pb, d) :: B) :: (XA ++ (((⟨pb, 0, [.pointer none, .slice sa d.once.length sc, .slice fa d.box.length fc, .int .i64 (d.bytes : Nat)], 4⟩ : Blk) :: (Xr ++ (Xc ++ (Xb ++ (Xl))))) ++ XB)), by simp only [List.append_assoc, List.cons_append, List.nil_append], [], _, rfl, by rw [fetchP_bare hfp hof]; exact ⟨b, _, _, List.Perm.refl _, (by simpa only [List.append_assoc, List.cons_append, List.nil_append] using hZ), rfl, hok⟩, by rw [fetchP_bare hfp hof]; exact ⟨rfl, rfl⟩⟩
  ·
    obtain ⟨A, B, rfl, hdn, hfp⟩ := atM_some hat
    obtain ⟨XA, X1, XB, rfl, hpr, hback⟩ := hZ.at
    obtain ⟨ov, sv, fv, cs, vs, Xo, Xr, Xc, Xb, Xl, ho, hs, hc, hbx, hl, rfl⟩ := hpr
    obtain ⟨sa, sc, rfl⟩ := hs.of hc.len (by decide)
    obtain ⟨fa, fc, rfl⟩ := hbx.of (n := d.box.length) (by rw [Nat.mul_one]; exact hl.len) (by decide)
    have hdo := hok.each d (by simp)
    have hdb := hdo.bytes
    have hdx := hdo.box
    have hdf := hdo.few
    have hof : d.offer = some o1 := hof0
    rw [hof] at ho
    obtain ⟨ob, cso, Xf, rfl, hfo, rfl⟩ := ho
    have hon : d.once = [] := hon0
    have hdl : d.once.length = 0 := by rw [hon]; rfl
    simp only [List.append_assoc, List.cons_append]
    refine TL.cons rfl (V1.t (V1.assign' z_B) ?_)
    refine TL.nil ?_
    refine T.seq ?_
    refine T.block ?_
    refine T.seq ?_
    refine T.region ?_
    refine TL.cons rfl (V1.t (V1.move' z_B) ?_)
    refine TL.cons rfl (V1.t (V1.eqPn ty_66 rfl rfl) ?_)
    refine TL.cons rfl (V1.t (V1.move' z_B) ?_)
    refine TL.cons rfl (V1.t (V1.move' z_B) ?_)
    refine TL.cons rfl (V1.t (V1.nilCheck rfl) ?_)
    refine TL.cons rfl (V1.t (V1.fieldAddr fl_71_0 rfl) ?_)
    refine TL.cons rfl (V1.t (V1.load1 (v := .pointer (some ⟨ob, 0, none⟩)) one_67 rfl (.own (cells := [.pointer (some ⟨ob, 0, none⟩), .slice sa d.once.length sc, .slice fa d.box.length fc, .int .i64 (d.bytes : Nat)]) z_D (by rfl))) ?_)
    refine TL.cons rfl (V1.t (V1.eqPn ty_67 rfl rfl) ?_)
    refine TL.cons rfl (V1.t (V1.pick rfl z_B) ?_)
    refine TL.cons rfl (V1.t (V1.assign' z_B) ?_)
    refine TL.nil ?_
    refine T.cond_f rfl ?_
    refine T.seq ?_
    refine T.live (l := [(4, _), (6, _)]) (.cons z_B (.cons z_B .nil)) (fun e_ => ?_)
    refine T.region ?_
    refine TL.cons rfl (V1.t (V1.move' z_B) ?_)
    refine TL.cons rfl (V1.t (V1.nilCheck rfl) ?_)
    refine TL.cons rfl (V1.t (V1.fieldAddr fl_71_1 rfl) ?_)
    refine TL.cons rfl (V1.t (V1.load1 (v := .slice sa d.once.length sc) one_42 rfl (.own (cells := [.pointer (some ⟨ob, 0, none⟩), .slice sa d.once.length sc, .slice fa d.box.length fc, .int .i64 (d.bytes : Nat)]) z_D (by rfl))) ?_)
    refine TL.cons rfl (V1.t (V1.lenSl ty_42 rfl) ?_)
    refine TL.cons rfl (V1.t (V1.eqI (r := true) rfl rfl (decide_eq_true (by omega))) ?_)
    refine TL.cons rfl (V1.t (V1.assign' z_B) ?_)
    refine TL.nil ?_
    refine T.cond_t rfl ?_
    refine T.seq ?_
    refine T.region ?_
    refine TL.cons rfl (V1.t (V1.move' z_B) ?_)
    refine TL.cons rfl (V1.t (V1.nilCheck rfl) ?_)
    refine TL.cons rfl (V1.t (V1.fieldAddr fl_71_0 rfl) ?_)
    refine TL.cons rfl (V1.t (V1.load1 (v := .pointer (some ⟨ob, 0, none⟩)) one_67 rfl (.own (cells := [.pointer (some ⟨ob, 0, none⟩), .slice sa d.once.length sc, .slice fa d.box.length fc, .int .i64 (d.bytes : Nat)]) z_D (by rfl))) ?_)
    refine TL.cons rfl (V1.t (V1.nilCheck rfl) ?_)
    refine TL.cons rfl (V1.t (V1.loadN (vs := cso) one_39 sz_39 rfl (RdN.whole z_D) (hfo.len)) ?_)
    refine TL.cons rfl (T1.callC has_33 rfl rfl (copied_any w0 Xf (hfo.read (hdo.offer _ hof).1 Inc.refl) (hdo.offer _ hof).2) z_E (fun v_ Yf hv => ?_))
    obtain ⟨csf, rfl, hcf⟩ := hv
    refine TL.cons rfl (T1.storeN (vs := csf) rfl rfl sz_39 hcf.one z_H (by rw [hcf.len]; rfl) hcf.len ?_)
    refine TL.cons rfl (V1.t (V1.assign' z_B) ?_)
    refine TL.nil ?_
    refine T.ret ?_
    exact ⟨_, Yf ++ ((⟨p, 0, [.map (some b)], 1⟩ : Blk) :: mapM b (A ++ (pb, d) :: B) :: (XA ++ ((⟨pb, 0, [.pointer (some ⟨ob, 0, none⟩), .slice sa d.once.length sc, .slice fa d.box.length fc, .int .i64 (d.bytes : Nat)], 4⟩ : Blk) :: (⟨ob, 0, cso, 5⟩ : Blk) :: (Xf ++ (Xr ++ (Xc ++ (Xb ++ (Xl ++ (XB ++ G))))))))), _, .cons (.cellN rfl one_39 sz_39 (RdN.whole z_D) hcf.len) (.cons (.tmp z_B) .nil), z_A, Yf ++ ((⟨p, 0, [.map (some b)], 1⟩ : Blk) :: mapM b (A ++ (pb, d) :: B) :: (XA ++ (((⟨pb, 0, [.pointer (some ⟨ob, 0, none⟩), .slice sa d.once.length sc, .slice fa d.box.length fc, .int .i64 (d.bytes : Nat)], 4⟩ : Blk) :: (⟨ob, 0, cso, 5⟩ : Blk) :: (Xf ++ (Xr ++ (Xc ++ (Xb ++ (Xl)))))) ++ XB))), by simp only [List.append_assoc, List.cons_append], Yf, _, rfl, by rw [fetchP_last hfp hof hon]; exact ⟨b, _, _, List.Perm.refl _, (by simpa only [List.append_assoc, List.cons_append] using hZ), rfl, hok⟩, by rw [fetchP_last hfp hof hon]; exact ⟨csf, rfl, hcf⟩⟩
  ·
    obtain ⟨A, B, rfl, hdn, hfp⟩ := atM_some hat
    obtain ⟨XA, X1, XB, rfl, hpr, hback⟩ := hZ.at
    obtain ⟨ov, sv, fv, cs, vs, Xo, Xr, Xc, Xb, Xl, ho, hs, hc, hbx, hl, rfl⟩ := hpr
    obtain ⟨sa, sc, rfl⟩ := hs.of hc.len (by decide)
    obtain ⟨fa, fc, rfl⟩ := hbx.of (n := d.box.length) (by rw [Nat.mul_one]; exact hl.len) (by decide)
    have hdo := hok.each d (by simp)
    have hdb := hdo.bytes
    have hdx := hdo.box
    have hdf := hdo.few
    have hof : d.offer = some o1 := hof0
    rw [hof] at ho
    obtain ⟨ob, cso, Xf, rfl, hfo, rfl⟩ := ho
    have hon : d.once = f1 :: fs1 := hon0
    have hdl : d.once.length = fs1.length + 1 := by rw [hon]; rfl
    have hc2 := hc
    rw [hon] at hc2
    obtain ⟨c1, c2, X1_, X2_, rfl, rfl, hf1, hf2⟩ := hc2.head
    obtain ⟨rb, ro, rsz, rfl, rfl, hrc⟩ := hs.someK (by omega)
    simp only [List.append_assoc, List.cons_append]
    simp only [List.nil_append]
    refine TL.cons rfl (V1.t (V1.assign' z_B) ?_)
    refine TL.nil ?_
    refine T.seq ?_
    refine T.block ?_
    refine T.seq ?_
    refine T.region ?_
    refine TL.cons rfl (V1.t (V1.move' z_B) ?_)
    refine TL.cons rfl (V1.t (V1.eqPn ty_66 rfl rfl) ?_)
    refine TL.cons rfl (V1.t (V1.move' z_B) ?_)
    refine TL.cons rfl (V1.t (V1.move' z_B) ?_)
    refine TL.cons rfl (V1.t (V1.nilCheck rfl) ?_)
    refine TL.cons rfl (V1.t (V1.fieldAddr fl_71_0 rfl) ?_)
    refine TL.cons rfl (V1.t (V1.load1 (v := .pointer (some ⟨ob, 0, none⟩)) one_67 rfl (.own (cells := [.pointer (some ⟨ob, 0, none⟩), .slice (some ⟨rb, ro, none⟩) d.once.length sc, .slice fa d.box.length fc, .int .i64 (d.bytes : Nat)]) z_D (by rfl))) ?_)
    refine TL.cons rfl (V1.t (V1.eqPn ty_67 rfl rfl) ?_)
    refine TL.cons rfl (V1.t (V1.pick rfl z_B) ?_)
    refine TL.cons rfl (V1.t (V1.assign' z_B) ?_)
    refine TL.nil ?_
    refine T.cond_f rfl ?_
    refine T.seq ?_
    refine T.live (l := [(4, _), (6, _)]) (.cons z_B (.cons z_B .nil)) (fun e_ => ?_)
    refine T.region ?_
    refine TL.cons rfl (V1.t (V1.move' z_B) ?_)
    refine TL.cons rfl (V1.t (V1.nilCheck rfl) ?_)
    refine TL.cons rfl (V1.t (V1.fieldAddr fl_71_1 rfl) ?_)
    refine TL.cons rfl (V1.t (V1.load1 (v := .slice (some ⟨rb, ro, none⟩) d.once.length sc) one_42 rfl (.own (cells := [.pointer (some ⟨ob, 0, none⟩), .slice (some ⟨rb, ro, none⟩) d.once.length sc, .slice fa d.box.length fc, .int .i64 (d.bytes : Nat)]) z_D (by rfl))) ?_)
    refine TL.cons rfl (V1.t (V1.lenSl ty_42 rfl) ?_)
    refine TL.cons rfl (V1.t (V1.eqI (r := false) rfl rfl (decide_eq_false (by omega))) ?_)
    refine TL.cons rfl (V1.t (V1.assign' z_B) ?_)
    refine TL.nil ?_
    refine T.cond_f rfl ?_
    refine T.skip ?_
    refine T.seq ?_
    refine T.region ?_
    refine TL.cons rfl (V1.t (V1.move' z_B) ?_)
    refine TL.cons rfl (V1.t (V1.nilCheck rfl) ?_)
    refine TL.cons rfl (V1.t (V1.fieldAddr fl_71_1 rfl) ?_)
    refine TL.cons rfl (V1.t (V1.load1 (v := .slice (some ⟨rb, ro, none⟩) d.once.length sc) one_42 rfl (.own (cells := [.pointer (some ⟨ob, 0, none⟩), .slice (some ⟨rb, ro, none⟩) d.once.length sc, .slice fa d.box.length fc, .int .i64 (d.bytes : Nat)]) z_D (by rfl))) ?_)
    refine TL.cons rfl (V1.t (V1.indexAddrS ty_42 sz_39 rfl rfl (by omega) (by omega)) ?_)
    refine TL.cons rfl (V1.t (V1.loadN (vs := c1) one_39 sz_39 rfl (show RdN _ _ ⟨rb, ro, none⟩ c1 from (RdN.at0 (cells := c1 ++ c2) z_D).pre) hf1.len) ?_)
    refine TL.cons rfl (T1.allocN 5 zr_39 rfl (fun b7 => ?_))
    refine TL.cons rfl (T1.storeN (vs := c1) rfl rfl sz_39 hf1.one z_H (by rw [hf1.len]; rfl) hf1.len ?_)
    refine TL.nil ?_
    refine T.seq ?_
    refine T.live (l := [(4, _), (6, _), (7, _)]) (.cons z_B (.cons z_B (.cons z_B .nil))) (fun e_ => ?_)
    refine T.region ?_
    refine TL.cons rfl (V1.t (V1.move' z_B) ?_)
    refine TL.cons rfl (V1.t (V1.move' z_B) ?_)
    refine TL.cons rfl (V1.t (V1.nilCheck rfl) ?_)
    refine TL.cons rfl (V1.t (V1.fieldAddr fl_71_1 rfl) ?_)
    refine TL.cons rfl (V1.t (V1.load1 (v := .slice (some ⟨rb, ro, none⟩) d.once.length sc) one_42 rfl (.own (cells := [.pointer (some ⟨ob, 0, none⟩), .slice (some ⟨rb, ro, none⟩) d.once.length sc, .slice fa d.box.length fc, .int .i64 (d.bytes : Nat)]) z_D (by rfl))) ?_)
    refine TL.cons rfl (T1.sliceFwdK (n := d.once.length) ty_42 sz_39 (by decide) rfl hs hc.len z_C 1 rfl rfl (by omega) (fun s2 Xr2 hs2 => ?_))
    rw [Nat.one_mul, List.drop_left' hf1.len] at hs2
    refine TL.cons rfl (V1.t (V1.nilCheck rfl) ?_)
    refine TL.cons rfl (V1.t (V1.fieldAddr fl_71_1 rfl) ?_)
    refine TL.cons rfl (T1.store1 rfl rfl sz_42 hs2.one z_H (Nat.zero_le _) z_J ?_)
    refine TL.nil ?_
    refine T.seq ?_
    refine T.region ?_
    refine TL.cons rfl (V1.t (V1.loadN (vs := c1) one_39 sz_39 rfl (RdN.whole z_D) hf1.len) ?_)
    refine TL.cons rfl (T1.storeN (vs := c1) rfl rfl sz_39 hf1.one z_H (by rw [hf1.len]; rfl) hf1.len ?_)
    refine TL.cons rfl (V1.t (V1.assign' z_B) ?_)
    refine TL.nil ?_
    refine T.ret ?_
    have hpo : PrO pb { d with once := fs1 } ((⟨pb, 0, [.pointer (some ⟨ob, 0, none⟩), s2, .slice fa d.box.length fc, .int .i64 (d.bytes : Nat)], 4⟩ : Blk) :: (⟨ob, 0, cso, 5⟩ : Blk) :: (Xf ++ (Xr2 ++ (X2_ ++ (Xb ++ (Xl)))))) := ⟨_, _, _, _, _, (⟨ob, 0, cso, 5⟩ : Blk) :: Xf, _, _, _, _, by rw [show ({ d with once := fs1 } : Pr).offer = some o1 from hof]; exact ⟨ob, cso, Xf, rfl, hfo, rfl⟩, hs2, hf2, hbx, hl, by simp only [List.cons_append]; rfl⟩
    exact ⟨_, X1_ ++ ((⟨p, 0, [.map (some b)], 1⟩ : Blk) :: mapM b (A ++ (pb, d) :: B) :: (XA ++ ((⟨pb, 0, [.pointer (some ⟨ob, 0, none⟩), s2, .slice fa d.box.length fc, .int .i64 (d.bytes : Nat)], 4⟩ : Blk) :: (⟨ob, 0, cso, 5⟩ : Blk) :: (Xf ++ (Xr2 ++ (X2_ ++ (Xb ++ (Xl ++ (XB ++ G))))))))), _, .cons (.cellN rfl one_39 sz_39 (RdN.whole z_D) hf1.len) (.cons (.tmp z_B) .nil), z_A, X1_ ++ ((⟨p, 0, [.map (some b)], 1⟩ : Blk) :: mapM b (A ++ (pb, d) :: B) :: (XA ++ (((⟨pb, 0, [.pointer (some ⟨ob, 0, none⟩), s2, .slice fa d.box.length fc, .int .i64 (d.bytes : Nat)], 4⟩ : Blk) :: (⟨ob, 0, cso, 5⟩ : Blk) :: (Xf ++ (Xr2 ++ (X2_ ++ (Xb ++ (Xl)))))) ++ XB))), by simp only [List.append_assoc, List.cons_append], X1_, _, rfl, by rw [fetchP_once hfp hof hon]; exact SrvO.set hok rfl (Pr.once_ok hdo hon) (hback _ _ hpo), by rw [fetchP_once hfp hof hon]; exact ⟨c1, rfl, hf1⟩⟩

end Go.Proofs.Ytijijaobialncaa.S
