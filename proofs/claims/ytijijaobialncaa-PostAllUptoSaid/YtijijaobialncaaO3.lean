/- A server: made, joined; who is known, and how much waits. -/
import Derived.Test.YtijijaobialncaaPostMem
namespace Go.Proofs.Ytijijaobialncaa.S
open Go.RowKit

theorem kvM_names (ms : List (Nat × Pr)) : (kvM ms).map (·.1) = (ms.map Prod.snd).map Pr.name := by simp [kvM]
set_option maxRecDepth 100000 in
theorem People_any (w0 : World) {p : Nat} {ps : List Pr} {X : List Blk} (h : SrvO p ps X) (hn : ps.length ≤ maxSort) : FnG P 22 [.pointer (some ⟨p, 0, none⟩)] w0 X [] (fun v Y => ∃ ns : List Nat, ns.Perm (ps.map Pr.name) ∧ ns.Pairwise (· ≤ ·) ∧ Sl v (ns.map u32V) 1 Y) := by
  obtain ⟨b, ms, Z, hX, hZ, rfl, hok⟩ := h
  refine FnG.of 9 [.tmp 2] Go.Proofs.Try.func22 rfl rfl rfl rfl (fun G hG => ?_)
  have hpf : Find G ⟨p, 0, [.map (some b)], 1⟩ := hG.find (hX.mem_iff.2 (List.mem_cons_self ..))
  have hmf : Find G (mapM b ms) := hG.find (hX.mem_iff.2 (List.mem_cons_of_mem _ (List.mem_cons_self ..)))
  refine T.seq ?_
  refine T.region ?_
  refine TL.cons rfl (V1.t (V1.assign' z_B) ?_)
  refine TL.nil ?_
  refine T.seq ?_
  refine T.region ?_
  refine TL.cons rfl (V1.t (V1.move' z_B) ?_)
  refine TL.cons rfl (V1.t (V1.nilCheck rfl) ?_)
  refine TL.cons rfl (V1.t (V1.fieldAddr fl_65_0 rfl) ?_)
  refine TL.cons rfl (V1.t (V1.load1 one_63 rfl (.own z_D (by rfl))) ?_)
  refine TL.cons rfl (T1.callC has_41 rfl rfl (Keys_any w0 b) z_E (fun v_ Y_ hY => ?_))
  obtain ⟨kb, rfl, rfl⟩ := hY
  simp only [List.cons_append, List.nil_append]
  refine TL.cons rfl (T1.callC (Ps := [⟨kb, 0, [.map (some b)], 1⟩, mapM b ms]) has_40 rfl rfl (Sorted_any w0 kb b (kvM ms) (by rw [kvM_names]; exact hok.names) (fun x hx => by obtain ⟨y, hy, rfl⟩ := List.mem_map.1 hx; exact (hok.each _ (List.mem_map_of_mem hy)).name) (by rw [show (kvM ms).length = ms.length from List.length_map ..]; simpa using hn)) z_E (fun v2_ Y2 hY => ?_))
  obtain ⟨ns, hp, hso, hsl⟩ := hY
  refine TL.cons rfl (V1.t (V1.assign' z_B) ?_)
  refine TL.nil ?_
  refine T.ret ?_
  exact ⟨_, Y2 ++ G, _, .cons (.tmp z_B) .nil, z_A, Y2, rfl, ns, by rw [← kvM_names]; exact hp, hso, hsl⟩

set_option maxRecDepth 100000 in
theorem New_any (w0 : World) : FnG P 9 [] w0 [] [] (fun v Y => ∃ p, v = .pointer (some ⟨p, 0, none⟩) ∧ SrvO p [] Y) := by
  refine FnG.of 4 [.tmp 0] Go.Proofs.Try.func9 rfl rfl rfl rfl (fun G hG => ?_)
  refine T.seq ?_
  refine T.region ?_
  refine TL.cons rfl (V1.t (V1.assign' z_B) ?_)
  refine TL.nil ?_
  refine T.seq ?_
  refine T.region ?_
  refine TL.cons rfl (T1.makeMap (fun b => ?_))
  refine TL.cons rfl (V1.t (V1.buildF pl_65 zr_65 (.one rfl z_B rfl .nil) z_I) ?_)
  refine TL.cons rfl (T1.boxN 1 rfl rfl (fun b3 => ?_))
  refine TL.cons rfl (V1.t (V1.assign' z_B) ?_)
  refine TL.nil ?_
  refine T.ret ?_
  exact ⟨_, _ :: _ :: G, _, .cons (.tmp z_B) .nil, z_A, [_, _], rfl, _, rfl, b, [], [], List.Perm.refl _, .nil, rfl, ⟨List.nodup_nil, fun d hd => (by cases hd), Nat.zero_le _⟩⟩

set_option maxRecDepth 100000 in
theorem Left_any (w0 : World) {p : Nat} {ps : List Pr} {X : List Blk} (h : SrvO p ps X) (n : Nat) : FnV P 17 [.pointer (some ⟨p, 0, none⟩), u32V n] w0 X (fun v => v = .int .i64 (leftP ps n : Nat)) := by
  obtain ⟨b, ms, Z, hX, hZ, rfl, hok⟩ := h
  refine FnV.of 19 [.tmp 4] Go.Proofs.Try.func17 rfl rfl rfl rfl (fun G hG => ?_)
  have hpf : Find G ⟨p, 0, [.map (some b)], 1⟩ := hG.find (hX.mem_iff.2 (List.mem_cons_self ..))
  have hmf : Find G (mapM b ms) := hG.find (hX.mem_iff.2 (List.mem_cons_of_mem _ (List.mem_cons_self ..)))
  refine T.seq ?_
  refine T.region ?_
  refine TL.cons rfl (V1.t (V1.assign' z_B) ?_)
  refine TL.nil ?_
  refine T.seq ?_
  refine T.seq ?_
  refine T.region ?_
  refine TL.cons rfl (V1.t (V1.move' z_B) ?_)
  refine TL.cons rfl (V1.t (V1.nilCheck rfl) ?_)
  refine TL.cons rfl (V1.t (V1.fieldAddr fl_65_0 rfl) ?_)
  refine TL.cons rfl (V1.t (V1.load1 one_63 rfl (.own z_D (by rfl))) ?_)
  refine TL.cons rfl (V1.t (V1.move' z_B) ?_)
  refine TL.cons rfl (V1.t (V1.lookup (q := qU n) (kv := (kvM ms).map fun x => (u32V x.1, x.2)) (v := ptrM (atM ms n)) ty_63 zr_66 ty_27 rfl rfl rfl z_D (kvM_now _ _) (kvM_find _ _ _)) ?_)
  rcases hat : atM ms n with _ | ⟨pb, d⟩
  ·
    have hfn := atM_none hat
    refine TL.cons rfl (V1.t (V1.assign' z_B) ?_)
    refine TL.nil ?_
    refine T.seq ?_
    refine T.region ?_
    refine TL.cons rfl (V1.t (V1.move' z_B) ?_)
    refine TL.cons rfl (V1.t (V1.nePn ty_66 rfl rfl) ?_)
    refine TL.nil ?_
    refine T.cond_f rfl ?_
    refine T.skip ?_
    refine T.seq ?_
    refine T.region ?_
    refine TL.cons rfl (V1.t (V1.assign' z_B) ?_)
    refine TL.nil ?_
    refine T.ret ?_
    exact ⟨_, G, _, .cons (.tmp z_B) .nil, z_A, rfl, by unfold leftP; rw [hfn]; rfl⟩
  ·
    obtain ⟨A, B, rfl, hdn, hfp⟩ := atM_some hat
    obtain ⟨XA, X1, XB, rfl, hpr, hback⟩ := hZ.at
    obtain ⟨ov, sv, fv, cs, vs, Xo, Xr, Xc, Xb, Xl, ho, hs, hc, hbx, hl, rfl⟩ := hpr
    obtain ⟨sa, sc, rfl⟩ := hs.of hc.len (by decide)
    obtain ⟨fa, fc, rfl⟩ := hbx.of (n := d.box.length) (by rw [Nat.mul_one]; exact hl.len) (by decide)
    have hqf : Find G ⟨pb, 0, [ov, .slice sa d.once.length sc, .slice fa d.box.length fc, .int .i64 (d.bytes : Nat)], 4⟩ := hG.find (hX.mem_iff.2 (by simp))
    refine TL.cons rfl (V1.t (V1.assign' z_B) ?_)
    refine TL.nil ?_
    refine T.seq ?_
    refine T.region ?_
    refine TL.cons rfl (V1.t (V1.move' z_B) ?_)
    refine TL.cons rfl (V1.t (V1.nePn ty_66 rfl rfl) ?_)
    refine TL.nil ?_
    refine T.cond_t rfl ?_
    refine T.seq ?_
    refine T.region ?_
    refine TL.cons rfl (V1.t (V1.move' z_B) ?_)
    refine TL.cons rfl (V1.t (V1.nilCheck rfl) ?_)
    refine TL.cons rfl (V1.t (V1.fieldAddr fl_71_1 rfl) ?_)
    refine TL.cons rfl (V1.t (V1.load1 one_42 rfl (.own z_D (by rfl))) ?_)
    refine TL.cons rfl (V1.t (V1.lenSl ty_42 rfl) ?_)
    refine TL.cons rfl (V1.t (V1.assign' z_B) ?_)
    refine TL.nil ?_
    refine T.ret ?_
    exact ⟨_, G, _, .cons (.tmp z_B) .nil, z_A, rfl, by unfold leftP; rw [hfp]; rfl⟩

set_option maxRecDepth 100000 in
theorem Waiting_any (w0 : World) {p : Nat} {ps : List Pr} {X : List Blk} (h : SrvO p ps X) (n : Nat) : FnV P 12 [.pointer (some ⟨p, 0, none⟩), u32V n] w0 X (fun v => v = .int .i64 (waitP ps n : Nat)) := by
  obtain ⟨b, ms, Z, hX, hZ, rfl, hok⟩ := h
  refine FnV.of 20 [.tmp 4] Go.Proofs.Try.func12 rfl rfl rfl rfl (fun G hG => ?_)
  have hpf : Find G ⟨p, 0, [.map (some b)], 1⟩ := hG.find (hX.mem_iff.2 (List.mem_cons_self ..))
  have hmf : Find G (mapM b ms) := hG.find (hX.mem_iff.2 (List.mem_cons_of_mem _ (List.mem_cons_self ..)))
  refine T.seq ?_
  refine T.region ?_
  refine TL.cons rfl (V1.t (V1.assign' z_B) ?_)
  refine TL.nil ?_
  refine T.seq ?_
  refine T.seq ?_
  refine T.region ?_
  refine TL.cons rfl (V1.t (V1.move' z_B) ?_)
  refine TL.cons rfl (V1.t (V1.nilCheck rfl) ?_)
  refine TL.cons rfl (V1.t (V1.fieldAddr fl_65_0 rfl) ?_)
  refine TL.cons rfl (V1.t (V1.load1 one_63 rfl (.own z_D (by rfl))) ?_)
  refine TL.cons rfl (V1.t (V1.move' z_B) ?_)
  refine TL.cons rfl (V1.t (V1.lookup (q := qU n) (kv := (kvM ms).map fun x => (u32V x.1, x.2)) (v := ptrM (atM ms n)) ty_63 zr_66 ty_27 rfl rfl rfl z_D (kvM_now _ _) (kvM_find _ _ _)) ?_)
  rcases hat : atM ms n with _ | ⟨pb, d⟩
  ·
    have hfn := atM_none hat
    refine TL.cons rfl (V1.t (V1.assign' z_B) ?_)
    refine TL.nil ?_
    refine T.seq ?_
    refine T.region ?_
    refine TL.cons rfl (V1.t (V1.move' z_B) ?_)
    refine TL.cons rfl (V1.t (V1.nePn ty_66 rfl rfl) ?_)
    refine TL.nil ?_
    refine T.cond_f rfl ?_
    refine T.skip ?_
    refine T.seq ?_
    refine T.region ?_
    refine TL.cons rfl (V1.t (V1.assign' z_B) ?_)
    refine TL.nil ?_
    refine T.ret ?_
    exact ⟨_, G, _, .cons (.tmp z_B) .nil, z_A, rfl, by unfold waitP; rw [hfn]; rfl⟩
  ·
    obtain ⟨A, B, rfl, hdn, hfp⟩ := atM_some hat
    obtain ⟨XA, X1, XB, rfl, hpr, hback⟩ := hZ.at
    obtain ⟨ov, sv, fv, cs, vs, Xo, Xr, Xc, Xb, Xl, ho, hs, hc, hbx, hl, rfl⟩ := hpr
    obtain ⟨sa, sc, rfl⟩ := hs.of hc.len (by decide)
    obtain ⟨fa, fc, rfl⟩ := hbx.of (n := d.box.length) (by rw [Nat.mul_one]; exact hl.len) (by decide)
    have hqf : Find G ⟨pb, 0, [ov, .slice sa d.once.length sc, .slice fa d.box.length fc, .int .i64 (d.bytes : Nat)], 4⟩ := hG.find (hX.mem_iff.2 (by simp))
    refine TL.cons rfl (V1.t (V1.assign' z_B) ?_)
    refine TL.nil ?_
    refine T.seq ?_
    refine T.region ?_
    refine TL.cons rfl (V1.t (V1.move' z_B) ?_)
    refine TL.cons rfl (V1.t (V1.nePn ty_66 rfl rfl) ?_)
    refine TL.nil ?_
    refine T.cond_t rfl ?_
    refine T.seq ?_
    refine T.region ?_
    refine TL.cons rfl (V1.t (V1.move' z_B) ?_)
    refine TL.cons rfl (V1.t (V1.nilCheck rfl) ?_)
    refine TL.cons rfl (V1.t (V1.fieldAddr fl_71_2 rfl) ?_)
    refine TL.cons rfl (V1.t (V1.fieldAddr fl_69_0 rfl) ?_)
    refine TL.cons rfl (V1.t (V1.load1 one_34 rfl (.own z_D (by rfl))) ?_)
    refine TL.cons rfl (V1.t (V1.lenSl ty_34 rfl) ?_)
    refine TL.cons rfl (V1.t (V1.assign' z_B) ?_)
    refine TL.nil ?_
    refine T.ret ?_
    exact ⟨_, G, _, .cons (.tmp z_B) .nil, z_A, rfl, by unfold waitP; rw [hfp]; rfl⟩

set_option maxRecDepth 100000 in
theorem Join_any (w0 : World) {p : Nat} {ps : List Pr} {X : List Blk} (h : SrvO p ps X) (n : Nat) (hn : n < 4294967296) : FnG P 10 [.pointer (some ⟨p, 0, none⟩), u32V n] w0 [] X (fun v Y => v = .int .i64 (joinP ps n).2 ∧ SrvO p (joinP ps n).1 Y) := by
  obtain ⟨b, ms, Z, hX, hZ, rfl, hok⟩ := h
  refine FnG.perm hX ?_
  refine FnG.of 27 [.tmp 4] Go.Proofs.Try.func10 rfl rfl rfl rfl (fun G hG => ?_)
  simp only [List.cons_append]
  refine T.seq ?_
  refine T.region ?_
  refine TL.cons rfl (V1.t (V1.assign' z_B) ?_)
  refine TL.nil ?_
  refine T.seq ?_
  refine T.block ?_
  refine T.seq ?_
  refine T.region ?_
  refine TL.cons rfl (V1.t (V1.move' z_B) ?_)
  refine TL.cons rfl (V1.t (V1.nilCheck rfl) ?_)
  refine TL.cons rfl (V1.t (V1.fieldAddr fl_65_0 rfl) ?_)
  refine TL.cons rfl (V1.t (V1.load1 one_63 rfl (.own z_D (by rfl))) ?_)
  refine TL.cons rfl (V1.t (V1.move' z_B) ?_)
  refine TL.cons rfl (V1.t (V1.lookup (q := qU n) (kv := (kvM ms).map fun x => (u32V x.1, x.2)) (v := ptrM (atM ms n)) ty_63 zr_66 ty_27 rfl rfl rfl z_D (kvM_now _ _) (kvM_find _ _ _)) ?_)
  rcases hat : atM ms n with _ | ⟨pb, d⟩
  ·
    have hfn := atM_none hat
    refine TL.cons rfl (V1.t (V1.nePn ty_66 rfl rfl) ?_)
    refine TL.cons rfl (V1.t (V1.assign' z_B) ?_)
    refine TL.nil ?_
    refine T.cond_f rfl ?_
    refine T.seq ?_
    refine T.region ?_
    refine TL.cons rfl (V1.t (V1.move' z_B) ?_)
    refine TL.cons rfl (V1.t (V1.nilCheck rfl) ?_)
    refine TL.cons rfl (V1.t (V1.fieldAddr fl_65_0 rfl) ?_)
    refine TL.cons rfl (V1.t (V1.load1 one_63 rfl (.own z_D (by rfl))) ?_)
    refine TL.cons rfl (V1.t (V1.lenMap ty_63 rfl z_D) ?_)
    refine TL.cons rfl (T1.eqI_split rfl rfl (fun h3 => ?_) (fun h3 => ?_))
    ·
      have h3 : ms.length = 64 := by have := h3; simp only [List.length_map, kvM] at this; omega
      refine TL.cons rfl (V1.t (V1.assign' z_B) ?_)
      refine TL.nil ?_
      refine T.cond_t rfl ?_
      refine T.seq ?_
      refine T.live (l := []) .nil (fun e_ => ?_)
      refine T.region ?_
      refine TL.cons rfl (V1.t (V1.assign' z_B) ?_)
      refine TL.nil ?_
      refine T.ret ?_
      exact ⟨_, _ :: _ :: (Z ++ G), _, .cons (.tmp z_B) .nil, z_A, _ :: _ :: Z, rfl, by unfold joinP; rw [hfn]; dsimp only; rw [if_pos (by rw [List.length_map]; exact h3)]; rfl, by unfold joinP; rw [hfn]; dsimp only; rw [if_pos (by rw [List.length_map]; exact h3)]; exact ⟨b, ms, Z, List.Perm.refl _, hZ, rfl, hok⟩⟩
    ·
      have h3 : ms.length ≠ 64 := by intro h_; apply h3; simp only [List.length_map, kvM]; omega
      refine TL.cons rfl (V1.t (V1.assign' z_B) ?_)
      refine TL.nil ?_
      refine T.cond_f rfl ?_
      refine T.skip ?_
      refine T.seq ?_
      refine T.live (l := [(0, _), (1, _)]) (.cons z_B (.cons z_B .nil)) (fun e_ => ?_)
      refine T.region ?_
      refine TL.cons rfl (V1.t (V1.move' z_B) ?_)
      refine TL.cons rfl (V1.t (V1.nilCheck rfl) ?_)
      refine TL.cons rfl (V1.t (V1.fieldAddr fl_65_0 rfl) ?_)
      refine TL.cons rfl (V1.t (V1.load1 one_63 rfl (.own z_D (by rfl))) ?_)
      refine TL.cons rfl (V1.t (V1.move' z_B) ?_)
      refine TL.cons rfl (V1.t (V1.build0 pl_71 zr_71) ?_)
      refine TL.cons rfl (T1.boxN 4 rfl rfl (fun b26 => ?_))
      refine TL.cons rfl (T1.mapUpdate (q := qU n) (kv' := ((kvM ms).map fun x => (u32V x.1, x.2)) ++ [(u32V n, .pointer (some ⟨b26, 0, none⟩))]) ty_63 ty_27 rfl rfl rfl rfl (kvM_now _ _) (kvM_bits _ _) (updQ_new hat) z_H ?_)
      refine TL.nil ?_
      refine T.seq ?_
      refine T.region ?_
      refine TL.cons rfl (V1.t (V1.assign' z_B) ?_)
      refine TL.nil ?_
      refine T.ret ?_
      exact ⟨_, _ :: _ :: _ :: (Z ++ G), _, .cons (.tmp z_B) .nil, z_A, _ :: _ :: _ :: Z, rfl, by unfold joinP; rw [hfn]; dsimp only; rw [if_neg (by rw [List.length_map]; exact h3)]; rfl, joinO hZ hok hn hfn h3⟩
  ·
    obtain ⟨A, B, hms, hdn, hfp⟩ := atM_some hat
    refine TL.cons rfl (V1.t (V1.nePn ty_66 rfl rfl) ?_)
    refine TL.cons rfl (V1.t (V1.assign' z_B) ?_)
    refine TL.nil ?_
    refine T.cond_t rfl ?_
    refine T.seq ?_
    refine T.region ?_
    refine TL.cons rfl (V1.t (V1.assign' z_B) ?_)
    refine TL.nil ?_
    refine T.ret ?_
    exact ⟨_, _ :: _ :: (Z ++ G), _, .cons (.tmp z_B) .nil, z_A, _ :: _ :: Z, rfl, by unfold joinP; rw [hfp]; rfl, by unfold joinP; rw [hfp]; exact ⟨b, ms, Z, List.Perm.refl _, hZ, rfl, hok⟩⟩

end Go.Proofs.Ytijijaobialncaa.S
