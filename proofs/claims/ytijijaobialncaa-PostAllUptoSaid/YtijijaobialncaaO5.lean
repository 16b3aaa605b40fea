/- Bytes that nobody sent. -/
import Derived.Test.YtijijaobialncaaO4
namespace Go.Proofs.Ytijijaobialncaa.S
open Go.RowKit

theorem PrO.put {pb : Nat} {d : Pr} {l : List UInt8} {ov sv fv v : Value} {cs vs : List Value} {Xo Xr Xc Xb Xl Y : List Blk} (ho : OffO ov d.offer Xo) (hs : Sl sv cs 5 Xr) (hc : FrmsO cs d.once Xc) (hb : Sl fv (vs ++ [v]) 1 Xb) (hl : BytO vs d.box Xl) (hv : Sl v (l.map byteV) 1 Y) :
    PrO pb (d.put l) (⟨pb, 0, [ov, sv, fv, .int .i64 ((d.bytes + l.length : Nat) : Int)], 4⟩ :: (Xo ++ (Xr ++ (Xc ++ (Xb ++ (Xl ++ Y)))))) :=
  ⟨ov, sv, fv, cs, vs ++ [v], Xo, Xr, Xc, Xb, Xl ++ Y, ho, hs, hc, hb, hl.snoc hv, by
    have : (d.put l).bytes = d.bytes + l.length := by unfold Pr.bytes Pr.put; simp
    rw [this]⟩
theorem putP_none {ps : List Pr} {n : Nat} {l : List UInt8} (h : findP ps n = none) : putP ps n l = (ps, 4) := by unfold putP; rw [h]
theorem putP_full {ps : List Pr} {n : Nat} {l : List UInt8} {d : Pr} (h : findP ps n = some d) (hr : ¬ (d.box.length < 200 ∧ d.bytes + l.length ≤ 65536)) : putP ps n l = (ps, 180) := by
  unfold putP; rw [h]; dsimp only; rw [if_neg (by unfold Pr.room; rw [decide_eq_true_iff]; exact hr)]
theorem putP_ok {ps : List Pr} {n : Nat} {l : List UInt8} {d : Pr} (h : findP ps n = some d) (hr : d.room l.length = true) : putP ps n l = (setP ps (d.put l), 0) := by
  unfold putP; rw [h]; dsimp only; rw [if_pos hr]
set_option maxRecDepth 100000 in
set_option maxHeartbeats 8000000 in
theorem Put_any (w0 : World) (Ps : List Blk) {p : Nat} {ps : List Pr} {X : List Blk} (h : SrvO p ps X) (n : Nat) {v : Value} {l : List UInt8} (hr : RowR w0 Ps 1 v l.length (l.map byteV)) (hl64 : l.length ≤ 1099511627776) : FnG P 23 [.pointer (some ⟨p, 0, none⟩), u32V n, v] w0 Ps X (fun v Y => v = .int .i64 (putP ps n l).2 ∧ SrvO p (putP ps n l).1 Y) := by
  obtain ⟨b, ms, Z, hX, hZ, rfl, hok⟩ := h
  refine FnG.perm hX ?_
  obtain ⟨ra, rc, rfl⟩ := hr.form
  refine FnG.of 60 [.tmp 6] Go.Proofs.Try.func23 rfl rfl rfl rfl (fun G hG => ?_)
  simp only [List.cons_append]
  refine T.seq ?_
  refine T.region ?_
  refine TL.cons rfl (V1.t (V1.assign' z_B) ?_)
  refine TL.nil ?_
  refine T.seq ?_
  refine T.region ?_
  refine TL.cons rfl (V1.t (V1.move' z_B) ?_)
  refine TL.cons rfl (V1.t (V1.nilCheck rfl) ?_)
  refine TL.cons rfl (V1.t (V1.fieldAddr fl_65_0 rfl) ?_)
  refine TL.cons rfl (V1.t (V1.load1 one_63 rfl (.own z_D (by rfl))) ?_)
  refine TL.cons rfl (V1.t (V1.move' z_B) ?_)
  refine TL.cons rfl (V1.t (V1.lookup (q := qU n) (kv := (kvM ms).map fun x => (u32V x.1, x.2)) (v := ptrM (atM ms n)) ty_63 zr_66 ty_27 rfl rfl rfl z_D (kvM_now _ _) (kvM_find _ _ _)) ?_)
  rcases hat : atM ms n with _ | ⟨pb, d⟩
  ·
    have hfn := atM_none hat
    refine TL.cons rfl (V1.t (V1.assign' z_B) ?_)
    refine TL.nil ?_
    refine T.seq ?_
    refine T.block ?_
    refine T.seq ?_
    refine T.region ?_
    refine TL.cons rfl (V1.t (V1.move' z_B) ?_)
    refine TL.cons rfl (V1.t (V1.eqPn ty_66 rfl rfl) ?_)
    refine TL.cons rfl (V1.t (V1.assign' z_B) ?_)
    refine TL.nil ?_
    refine T.cond_t rfl ?_
    refine T.seq ?_
    refine T.region ?_
    refine TL.cons rfl (V1.t (V1.assign' z_B) ?_)
    refine TL.nil ?_
    refine T.ret ?_
    exact ⟨_, _ :: _ :: (Z ++ G), _, .cons (.tmp z_B) .nil, z_A, _ :: _ :: Z, rfl, by rw [putP_none hfn]; rfl, by rw [putP_none hfn]; exact ⟨b, ms, Z, List.Perm.refl _, hZ, rfl, hok⟩⟩
  ·
    obtain ⟨A, B, rfl, hdn, hfp⟩ := atM_some hat
    obtain ⟨XA, X1, XB, rfl, hpr, hback⟩ := hZ.at
    obtain ⟨ov, sv, fv, cs, vs, Xo, Xr, Xc, Xb, Xl, ho, hs, hc, hbx, hl, rfl⟩ := hpr
    obtain ⟨sa, sc, rfl⟩ := hs.of hc.len (by decide)
    obtain ⟨fa, fc, rfl⟩ := hbx.of (n := d.box.length) (by rw [Nat.mul_one]; exact hl.len) (by decide)
    have hdo := hok.each d (by simp)
    have hdb := hdo.bytes
    have hdx := hdo.box
    have hdf := hdo.few
    simp only [List.append_assoc, List.cons_append]
    refine TL.cons rfl (V1.t (V1.assign' z_B) ?_)
    refine TL.nil ?_
    refine T.seq ?_
    refine T.block ?_
    refine T.seq ?_
    refine T.region ?_
    refine TL.cons rfl (V1.t (V1.move' z_B) ?_)
    refine TL.cons rfl (V1.t (V1.eqPn ty_66 rfl rfl) ?_)
    refine TL.cons rfl (V1.t (V1.assign' z_B) ?_)
    refine TL.nil ?_
    refine T.cond_f rfl ?_
    refine T.seq ?_
    refine T.region ?_
    refine TL.cons rfl (V1.t (V1.move' z_B) ?_)
    refine TL.cons rfl (V1.t (V1.nilCheck rfl) ?_)
    refine TL.cons rfl (V1.t (V1.fieldAddr fl_71_2 rfl) ?_)
    refine TL.cons rfl (V1.t (V1.fieldAddr fl_69_0 rfl) ?_)
    refine TL.cons rfl (V1.t (V1.load1 (v := .slice fa d.box.length fc) one_34 rfl (.own (cells := [ov, .slice sa d.once.length sc, .slice fa d.box.length fc, .int .i64 (d.bytes : Nat)]) z_D (by rfl))) ?_)
    refine TL.cons rfl (V1.t (V1.lenSl ty_34 rfl) ?_)
    refine TL.cons rfl (T1.eqI_split rfl rfl (fun h4_6 => ?_) (fun h4_6 => ?_))
    ·
      refine TL.cons rfl (V1.t (V1.move' z_B) ?_)
      refine TL.no rfl ?_
      refine TL.no rfl ?_
      refine TL.no rfl ?_
      refine TL.no rfl ?_
      refine TL.no rfl ?_
      refine TL.no rfl ?_
      refine TL.no rfl ?_
      refine TL.no rfl ?_
      refine TL.no rfl ?_
      refine TL.cons rfl (V1.t (V1.pick rfl z_B) ?_)
      refine TL.cons rfl (V1.t (V1.assign' z_B) ?_)
      refine TL.nil ?_
      refine T.cond_t rfl ?_
      refine T.seq ?_
      refine T.live (l := []) .nil (fun e_ => ?_)
      refine T.region ?_
      refine TL.cons rfl (V1.t (V1.assign' z_B) ?_)
      refine TL.nil ?_
      refine T.ret ?_
      exact ⟨_, (⟨p, 0, [.map (some b)], 1⟩ : Blk) :: mapM b (A ++ (pb, d) :: B) :: (XA ++ ((⟨pb, 0, [ov, .slice sa d.once.length sc, .slice fa d.box.length fc, .int .i64 (d.bytes : Nat)], 4⟩ : Blk) :: (Xo ++ (Xr ++ (Xc ++ (Xb ++ (Xl ++ (XB ++ G)))))))), _, .cons (.tmp z_B) .nil, z_A, (⟨p, 0, [.map (some b)], 1⟩ : Blk) :: mapM b (A ++ (pb, d) :: B) :: (XA ++ (((⟨pb, 0, [ov, .slice sa d.once.length sc, .slice fa d.box.length fc, .int .i64 (d.bytes : Nat)], 4⟩ : Blk) :: (Xo ++ (Xr ++ (Xc ++ (Xb ++ Xl))))) ++ XB)), by simp only [List.append_assoc, List.cons_append], by rw [putP_full hfp (by omega)]; rfl, by rw [putP_full hfp (by omega)]; exact ⟨b, _, _, List.Perm.refl _, hZ, rfl, hok⟩⟩
    ·
      refine TL.cons rfl (V1.t (V1.move' z_B) ?_)
      refine TL.cons rfl (V1.t (V1.move' z_B) ?_)
      refine TL.cons rfl (V1.t (V1.lenSl ty_29 rfl) ?_)
      refine TL.cons rfl (V1.t (V1.move' z_B) ?_)
      refine TL.cons rfl (V1.t (V1.nilCheck rfl) ?_)
      refine TL.cons rfl (V1.t (V1.fieldAddr fl_71_2 rfl) ?_)
      refine TL.cons rfl (V1.t (V1.fieldAddr fl_69_1 rfl) ?_)
      refine TL.cons rfl (V1.t (V1.load1 (v := .int .i64 (d.bytes : Nat)) one_3 rfl (.own (cells := [ov, .slice sa d.once.length sc, .slice fa d.box.length fc, .int .i64 (d.bytes : Nat)]) z_D (by rfl))) ?_)
      refine TL.cons rfl (V1.t (V1.sub (c := 65536 - (d.bytes : Int)) rfl rfl (by rw [wrap_i64 _ (by omega) (by omega)])) ?_)
      refine TL.cons rfl (T1.gtI_split rfl rfl (fun h4_16 => ?_) (fun h4_16 => ?_))
      ·
        refine TL.cons rfl (V1.t (V1.pick rfl z_B) ?_)
        refine TL.cons rfl (V1.t (V1.assign' z_B) ?_)
        refine TL.nil ?_
        refine T.cond_t rfl ?_
        refine T.seq ?_
        refine T.live (l := []) .nil (fun e_ => ?_)
        refine T.region ?_
        refine TL.cons rfl (V1.t (V1.assign' z_B) ?_)
        refine TL.nil ?_
        refine T.ret ?_
        exact ⟨_, (⟨p, 0, [.map (some b)], 1⟩ : Blk) :: mapM b (A ++ (pb, d) :: B) :: (XA ++ ((⟨pb, 0, [ov, .slice sa d.once.length sc, .slice fa d.box.length fc, .int .i64 (d.bytes : Nat)], 4⟩ : Blk) :: (Xo ++ (Xr ++ (Xc ++ (Xb ++ (Xl ++ (XB ++ G)))))))), _, .cons (.tmp z_B) .nil, z_A, (⟨p, 0, [.map (some b)], 1⟩ : Blk) :: mapM b (A ++ (pb, d) :: B) :: (XA ++ (((⟨pb, 0, [ov, .slice sa d.once.length sc, .slice fa d.box.length fc, .int .i64 (d.bytes : Nat)], 4⟩ : Blk) :: (Xo ++ (Xr ++ (Xc ++ (Xb ++ Xl))))) ++ XB)), by simp only [List.append_assoc, List.cons_append], by rw [putP_full hfp (by omega)]; rfl, by rw [putP_full hfp (by omega)]; exact ⟨b, _, _, List.Perm.refl _, hZ, rfl, hok⟩⟩
      ·
        refine TL.cons rfl (V1.t (V1.pick rfl z_B) ?_)
        refine TL.cons rfl (V1.t (V1.assign' z_B) ?_)
        refine TL.nil ?_
        refine T.cond_f rfl ?_
        refine T.skip ?_
        refine T.seq ?_
        refine T.live (l := [(2, _), (7, _)]) (.cons z_B (.cons z_B .nil)) (fun e_ => ?_)
        refine T.drawX (fun L_ => Find L_ ⟨pb, 0, [ov, .slice sa d.once.length sc, .slice fa d.box.length fc, .int .i64 (d.bytes : Nat)], 4⟩ ∧ Inc Ps L_) 13 mixed ⟨z_D, z_E⟩ ?_
        refine TX.take 0 rfl z_F z_F z_F z_F rfl (fun _ _ _ h => h) (fun L_ ⟨k1_, k2_⟩ => V1.move' z_B) ?_
        refine TX.take 1 rfl z_F z_F z_F z_F rfl (fun _ _ _ h => h) (fun L_ ⟨k1_, k2_⟩ => V1.move' z_B) ?_
        refine TX.take 2 rfl z_F z_F z_F z_F rfl (fun _ _ _ h => h) (fun L_ ⟨k1_, k2_⟩ => V1.nilCheck rfl) ?_
        refine TX.take 3 rfl z_F z_F z_F z_F rfl (fun _ _ _ h => h) (fun L_ ⟨k1_, k2_⟩ => V1.fieldAddr fl_71_2 rfl) ?_
        refine TX.take 4 rfl z_F z_F z_F z_F rfl (fun _ _ _ h => h) (fun L_ ⟨k1_, k2_⟩ => V1.fieldAddr fl_69_0 rfl) ?_
        refine TX.take 5 rfl z_F z_F z_F z_F rfl (fun _ _ _ h => h) (fun L_ ⟨k1_, k2_⟩ => V1.load1 (v := .slice fa d.box.length fc) one_34 rfl (.own (cells := [ov, .slice sa d.once.length sc, .slice fa d.box.length fc, .int .i64 (d.bytes : Nat)]) z_D (by rfl))) ?_
        refine TX.take 6 rfl z_F z_F z_F z_F rfl (fun _ _ _ h => h) (fun L_ ⟨k1_, k2_⟩ => V1.move' z_B) ?_
        refine TX.one 7 z_F rfl rfl (T1.callC has_27 rfl rfl (CloneB_any w0 Ps hr (one_bytes _) (by omega)) z_E (fun v_c Xy hcl => ?_))
        refine ⟨⟨z_D, z_E⟩, ?_⟩
        refine TX.one 8 z_F rfl rfl (T1.buildSl1 (os := [.tmp 43]) (vs := [v_c]) ty_34 sz_29 zr_29 (by decide) rfl (.cons z_B .nil) rfl (by intro u hu; simp only [List.mem_singleton] at hu; subst hu; exact hcl.one) (fun b44 => ?_))
        refine ⟨⟨z_D, z_E⟩, ?_⟩
        refine TX.one 9 z_F rfl rfl (T1.append ty_34 kd_34 sz_29 by_29 zr_29 rfl (by decide) (by decide) rfl rfl hbx (.sl (n := 1) (RdN.whole z_D) (by rfl)) (by intro u hu; simp only [List.mem_singleton] at hu; subst hu; exact hcl.one) 1000 (by rw [hl.len]; simp only [List.length_singleton]; omega) (by decide) z_C (fun f2 Xb2 hf2 => ?_))
        refine ⟨⟨z_D, z_E⟩, ?_⟩
        refine TX.one 10 z_F rfl rfl (V1.t (V1.nilCheck rfl) ?_)
        refine ⟨⟨z_D, z_E⟩, ?_⟩
        refine TX.one 11 z_F rfl rfl (V1.t (V1.fieldAddr fl_71_2 rfl) ?_)
        refine ⟨⟨z_D, z_E⟩, ?_⟩
        refine TX.take 12 rfl z_F z_F z_F z_F rfl (fun _ _ _ h => h) (fun L_ ⟨k1_, k2_⟩ => V1.fieldAddr fl_69_0 rfl) ?_
        refine TX.oneK z_F rfl rfl (T1.store1 rfl rfl sz_34 hf2.one z_H (Nat.zero_le _) z_J ?_)
        refine TX.done z_F ?_
        refine T.seq ?_
        refine T.region ?_
        refine TL.cons rfl (V1.t (V1.move' z_B) ?_)
        refine TL.cons rfl (V1.t (V1.nilCheck rfl) ?_)
        refine TL.cons rfl (V1.t (V1.fieldAddr fl_71_2 rfl) ?_)
        refine TL.cons rfl (V1.t (V1.fieldAddr fl_69_1 rfl) ?_)
        refine TL.cons rfl (V1.t (V1.load1 (v := .int .i64 (d.bytes : Nat)) one_3 rfl (.own (cells := [ov, .slice sa d.once.length sc, f2, .int .i64 (d.bytes : Nat)]) z_D (by rfl))) ?_)
        refine TL.cons rfl (V1.t (V1.move' z_B) ?_)
        refine TL.cons rfl (V1.t (V1.lenSl ty_29 rfl) ?_)
        refine TL.cons rfl (V1.t (V1.add (c := ((d.bytes + l.length : Nat) : Int)) rfl rfl (by rw [wrap_i64 _ (by omega) (by omega)]; omega)) ?_)
        refine TL.cons rfl (V1.t (V1.nilCheck rfl) ?_)
        refine TL.cons rfl (V1.t (V1.fieldAddr fl_71_2 rfl) ?_)
        refine TL.cons rfl (V1.t (V1.fieldAddr fl_69_1 rfl) ?_)
        refine TL.cons rfl (T1.store1 rfl rfl sz_3 rfl z_H (Nat.zero_le _) z_J ?_)
        refine TL.nil ?_
        refine T.seq ?_
        refine T.live (l := []) .nil (fun e_ => ?_)
        refine T.region ?_
        refine TL.cons rfl (V1.t (V1.assign' z_B) ?_)
        refine TL.nil ?_
        refine T.ret ?_
        have hroom : d.room l.length = true := decide_eq_true (by omega)
        exact ⟨_, (⟨p, 0, [.map (some b)], 1⟩ : Blk) :: mapM b (A ++ (pb, d) :: B) :: (XA ++ ((⟨pb, 0, [ov, .slice sa d.once.length sc, f2, .int .i64 ((d.bytes + l.length : Nat) : Int)], 4⟩ : Blk) :: (Xo ++ (Xr ++ (Xc ++ (Xb2 ++ (Xl ++ (Xy ++ (XB ++ G))))))))), _, .cons (.tmp z_B) .nil, z_A, (⟨p, 0, [.map (some b)], 1⟩ : Blk) :: mapM b (A ++ (pb, d) :: B) :: (XA ++ (((⟨pb, 0, [ov, .slice sa d.once.length sc, f2, .int .i64 ((d.bytes + l.length : Nat) : Int)], 4⟩ : Blk) :: (Xo ++ (Xr ++ (Xc ++ (Xb2 ++ (Xl ++ Xy)))))) ++ XB)), by simp only [List.append_assoc, List.cons_append], by rw [putP_ok hfp hroom]; rfl, by rw [putP_ok hfp hroom]; exact SrvO.set hok rfl (Pr.put_ok hdo hroom) (hback _ _ (PrO.put ho hs hc hf2 hl hcl))⟩

end Go.Proofs.Ytijijaobialncaa.S
