/- Terms held against each other. -/
import Derived.Test.YtlpkcbkflfbclaaGreatDoorT1
namespace Go.Proofs.YtlpkcbkflfbclaaGreatDoor.S
open Go.RowKit

theorem orL3 (a b c : Int) : orL [a, b, c] = orI a (orI b (orI c 0)) := rfl
theorem or3_ne {a b c d : Int} (h : orL [a, b, c] ≠ 0) : orL [a, b, c] = orI a (orI b (orI c d)) := by
  rw [orL3] at h ⊢; unfold orI at h ⊢; (repeat' split) <;> simp_all
theorem or3_eq {a b c d : Int} (h : orL [a, b, c] = 0) : d = orI a (orI b (orI c d)) := by
  rw [orL3] at h; unfold orI at h ⊢; (repeat' split) <;> simp_all
theorem cmpTs_drop {xs ys : List Tm} {i : Nat} {x y : Tm} (hx : xs[i]? = some x) (hy : ys[i]? = some y) : cmpTs (xs.drop i) (ys.drop i) = orI (cmpT x y) (cmpTs (xs.drop (i + 1)) (ys.drop (i + 1))) := by
  have h1 := (List.getElem?_eq_some_iff.1 hx).1
  have h2 := (List.getElem?_eq_some_iff.1 hy).1
  rw [List.drop_eq_getElem_cons h1, List.drop_eq_getElem_cons h2, cmpTs]
  rw [List.getElem?_eq_getElem h1] at hx
  rw [List.getElem?_eq_getElem h2] at hy
  rw [Option.some.inj hx, Option.some.inj hy]
theorem cmpTs_long {xs : List Tm} {i : Nat} (h : i < xs.length) : cmpTs (xs.drop i) [] = 1 := by rw [List.drop_eq_getElem_cons h, cmpTs]
theorem cmpTs_short {ys : List Tm} {i : Nat} (h : i < ys.length) : cmpTs [] (ys.drop i) = -1 := by rw [List.drop_eq_getElem_cons h, cmpTs]
/-- What is asked of a comparison: at these terms it is the order's. -/
def CmpAt (w0 : World) (x : Tm) : Prop := ∀ (y : Tm) (Ps : List Blk) (cx cy : List Value), TmR w0 Ps x cx → TmR w0 Ps y cy → FnV P 30 [.agg cx.toArray, .agg cy.toArray] w0 Ps (fun v => v = .int .i64 (cmpT x y))

set_option maxRecDepth 100000 in
theorem CompareFunc_of (w0 : World) (Ps : List Blk) (xs ys : List Tm) (hc : ∀ x ∈ xs, CmpAt w0 x) {a1 a2 : Option Addr} {c1 c2 : Nat} {vs1 vs2 : List Value} (hr1 : RowR w0 Ps 3 (.slice a1 xs.length c1) xs.length vs1) (ht1 : TmsR w0 Ps xs vs1) (hr2 : RowR w0 Ps 3 (.slice a2 ys.length c2) ys.length vs2) (ht2 : TmsR w0 Ps ys vs2) (hl1 : xs.length ≤ maxN) (hl2 : ys.length ≤ maxN) : FnV P 68 [.slice a1 xs.length c1, .slice a2 ys.length c2, .func (.func 30) #[] #[]] w0 Ps (fun v => v = .int .i64 (cmpTs xs ys)) := by
  unfold maxN at hl1 hl2
  refine FnV.of 39 [.tmp 6] Go.Proofs.Tryz.func68 rfl rfl rfl rfl (fun G hG => ?_)
  refine T.seq ?_
  refine T.region ?_
  refine TL.cons rfl (V1.t (V1.assign' z_D) ?_)
  refine TL.nil ?_
  refine T.seq ?_
  refine T.seq ?_
  refine T.region ?_
  refine TL.cons rfl (V1.t (V1.move' z_D) ?_)
  refine TL.cons rfl (V1.t (V1.lenSl ty_22 rfl) ?_)
  refine TL.cons rfl (V1.t (V1.move' z_D) ?_)
  refine TL.nil ?_
  refine T.block ?_
  refine T.loopL (σ := Nat) (l0 := [(0, _), (1, _), (2, _), (11, _), (12, _)]) (fun x => [(13, .int .i64 (x : Nat))]) (fun i L => L = G ∧ i ≤ xs.length ∧ i ≤ ys.length ∧ cmpTs xs ys = cmpTs (xs.drop i) (ys.drop i)) (fun i => xs.length - i) 0 (.cons rfl .nil) (.cons z_D (.cons z_D (.cons z_D (.cons z_D (.cons z_D .nil))))) z_A (⟨rfl, Nat.zero_le _, Nat.zero_le _, by rw [List.drop_zero, List.drop_zero]⟩) ?_
  rintro i e_ L ⟨hL, hi, hj, ho⟩
  obtain rfl := hL.symm
  refine T.seq ?_
  refine T.region ?_
  refine TL.cons rfl (T1.ltI_split rfl rfl (fun h2 => ?_) (fun h2 => ?_))
  ·
    obtain ⟨x, hx0⟩ : ∃ x, xs[i]? = some x := ⟨_, List.getElem?_eq_getElem (by omega)⟩
    have hcx := hc x (List.mem_of_getElem? hx0)
    obtain ⟨bx, ox, cs_, rfl, hx, hrdx⟩ := hr1.term ht1 hx0 P
    obtain ⟨kx, nx, asx⟩ := x
    obtain ⟨ax, cx, vsx, rfl, hrx, hlx, htx⟩ := hx.inv
    try simp only at *
    refine TL.nil ?_
    refine T.seq ?_
    refine T.cond_t rfl ?_
    refine T.skip ?_
    refine T.seq ?_
    refine T.block ?_
    refine T.seq ?_
    refine T.region ?_
    refine TL.cons rfl (V1.t (V1.move' z_D) ?_)
    refine TL.cons rfl (V1.t (V1.indexAddrS ty_22 sz_24 rfl rfl (by omega) (by omega)) ?_)
    refine TL.cons rfl (V1.t (V1.loadN (vs := [.int .i64 kx, .string (bstr nx), .slice ax asx.length cx]) one_24 sz_24 rfl (hrdx _ rfl rfl _ z_E) rfl) ?_)
    refine TL.cons rfl (T1.allocN 3 zr_24 rfl (fun b8 => ?_))
    refine TL.cons rfl (V1.t (V1.assign' z_D) ?_)
    refine TL.cons rfl (T1.storeN rfl rfl sz_24 (ones rfl) z_G (by rfl) (by rfl) ?_)
    refine TL.nil ?_
    refine T.seq ?_
    refine T.seq ?_
    refine T.region ?_
    refine TL.cons rfl (V1.t (V1.move' z_D) ?_)
    refine TL.cons rfl (V1.t (V1.move' z_D) ?_)
    refine TL.cons rfl (V1.t (V1.lenSl ty_22 rfl) ?_)
    refine TL.cons rfl (T1.geI_split rfl rfl (fun h4 => ?_) (fun h4 => ?_))
    ·
      obtain rfl : i = ys.length := by omega
      refine TL.nil ?_
      refine T.cond_t rfl ?_
      refine T.seq ?_
      refine T.region ?_
      refine TL.cons rfl (V1.t (V1.assign' z_D) ?_)
      refine TL.nil ?_
      refine T.ret ?_
      rw [List.drop_length, cmpTs_long (by omega)] at ho
      exact ⟨_, G, _, .cons (.tmp z_D) .nil, z_A, rfl, congrArg (Value.int .i64) ho.symm⟩
    ·
      obtain ⟨y, hy0⟩ : ∃ y, ys[i]? = some y := ⟨_, List.getElem?_eq_getElem (by omega)⟩
      have hdr := cmpTs_drop hx0 hy0
      obtain ⟨by_, oy, cs_, rfl, hy, hrdy⟩ := hr2.term ht2 hy0 P
      obtain ⟨ky, ny, asy⟩ := y
      obtain ⟨ay, cy, vsy, rfl, hry, hly, hty⟩ := hy.inv
      try simp only at *
      refine TL.nil ?_
      refine T.cond_f rfl ?_
      refine T.skip ?_
      refine T.seq ?_
      refine T.region ?_
      refine TL.cons rfl (V1.t (V1.move' z_D) ?_)
      refine TL.cons rfl (V1.t (V1.move' z_D) ?_)
      refine TL.cons rfl (V1.t (V1.indexAddrS ty_22 sz_24 rfl rfl (by omega) (by omega)) ?_)
      refine TL.cons rfl (V1.t (V1.loadN (vs := [.int .i64 ky, .string (bstr ny), .slice ay asy.length cy]) one_24 sz_24 rfl (hrdy _ rfl rfl _ z_E) rfl) ?_)
      refine TL.cons rfl (T1.allocN 3 zr_24 rfl (fun b9 => ?_))
      refine TL.cons rfl (T1.storeN rfl rfl sz_24 (ones rfl) z_G (by rfl) (by rfl) ?_)
      refine TL.nil ?_
      refine T.seq ?_
      refine T.live (l := [(0, _), (1, _), (2, _), (8, _), (9, _), (11, _), (12, _), (13, _)]) (.cons z_D (.cons z_D (.cons z_D (.cons z_D (.cons z_D (.cons z_D (.cons z_D (.cons z_D .nil)))))))) (fun e_ => ?_)
      refine T.region ?_
      refine TL.cons rfl (V1.t (V1.move' z_D) ?_)
      refine TL.cons rfl (V1.t (V1.loadN one_24 sz_24 rfl (RdN.whole z_C) (by rfl)) ?_)
      refine TL.cons rfl (V1.t (V1.loadN one_24 sz_24 rfl (RdN.whole z_C) (by rfl)) ?_)
      refine TL.cons rfl (T1.callGV (first := #[]) (cap := #[]) rfl has_30 rfl rfl (hcx (.mk ky ny asy) _ _ _ hx hy) z_E (fun v_ hv => ?_))
      obtain rfl := hv
      refine TL.cons rfl (V1.t (V1.assign' z_D) ?_)
      refine TL.nil ?_
      refine T.seq ?_
      refine T.region ?_
      refine TL.cons rfl (V1.t (V1.move' z_D) ?_)
      refine TL.cons rfl (T1.neI_split rfl rfl (fun h8 => ?_) (fun h8 => ?_))
      ·
        rw [hdr, orI, if_pos h8] at ho
        refine TL.nil ?_
        refine T.cond_t rfl ?_
        refine T.seq ?_
        refine T.region ?_
        refine TL.cons rfl (V1.t (V1.move' z_D) ?_)
        refine TL.cons rfl (V1.t (V1.assign' z_D) ?_)
        refine TL.nil ?_
        refine T.ret ?_
        exact ⟨_, G, _, .cons (.tmp z_D) .nil, z_A, rfl, congrArg (Value.int .i64) ho.symm⟩
      ·
        rw [hdr, orI, if_neg (by omega)] at ho
        refine TL.nil ?_
        refine T.cond_f rfl ?_
        refine T.skip ?_
        refine T.region ?_
        refine TL.cons rfl (V1.t (V1.add (c := ((i + 1 : Nat) : Int)) rfl rfl (by rw [wrap_i64 _ (by omega) (by omega)]; omega)) ?_)
        refine TL.cons rfl (V1.t (V1.move' z_D) ?_)
        refine TL.nil ?_
        exact ⟨i + 1, _, _, (by simp only; omega), (.cons rfl .nil), (.cons rfl (.cons rfl (.cons rfl (.cons rfl (.cons rfl .nil))))), z_A, ⟨rfl, by omega, by omega, ho⟩⟩
  ·
    obtain rfl : i = xs.length := by omega
    refine TL.nil ?_
    refine T.seq ?_
    refine T.cond_f rfl ?_
    refine T.exit ?_
    refine T.seq ?_
    refine T.seq ?_
    refine T.region ?_
    refine TL.cons rfl (V1.t (V1.move' z_D) ?_)
    refine TL.cons rfl (V1.t (V1.lenSl ty_22 rfl) ?_)
    refine TL.cons rfl (V1.t (V1.move' z_D) ?_)
    refine TL.cons rfl (V1.t (V1.lenSl ty_22 rfl) ?_)
    refine TL.cons rfl (T1.ltI_split rfl rfl (fun h11 => ?_) (fun h11 => ?_))
    ·
      rw [List.drop_length, cmpTs_short (by omega)] at ho
      refine TL.nil ?_
      refine T.cond_t rfl ?_
      refine T.seq ?_
      refine T.region ?_
      refine TL.cons rfl (V1.t (V1.assign' z_D) ?_)
      refine TL.nil ?_
      refine T.ret ?_
      exact ⟨_, G, _, .cons (.tmp z_D) .nil, z_A, rfl, congrArg (Value.int .i64) ho.symm⟩
    ·
      rw [List.drop_length, List.drop_of_length_le (by omega), cmpTs] at ho
      refine TL.nil ?_
      refine T.cond_f rfl ?_
      refine T.skip ?_
      refine T.seq ?_
      refine T.region ?_
      refine TL.cons rfl (V1.t (V1.assign' z_D) ?_)
      refine TL.nil ?_
      refine T.ret ?_
      exact ⟨_, G, _, .cons (.tmp z_D) .nil, z_A, rfl, congrArg (Value.int .i64) ho.symm⟩

set_option maxRecDepth 100000 in
theorem Compare_step (w0 : World) (Ps : List Blk) {kx : Int} {nx : List UInt8} {asx : List Tm} (ih : ∀ x ∈ asx, CmpAt w0 x) (y : Tm) (cx cy : List Value) (hx : TmR w0 Ps (.mk kx nx asx) cx) (hy : TmR w0 Ps y cy) : FnV P 30 [.agg cx.toArray, .agg cy.toArray] w0 Ps (fun v => v = .int .i64 (cmpT (.mk kx nx asx) y)) := by
  obtain ⟨ky, ny, asy⟩ := y
  obtain ⟨ax, cx, vsx, rfl, hrx, hlx, htx⟩ := hx.inv
  obtain ⟨ay, cy, vsy, rfl, hry, hly, hty⟩ := hy.inv
  refine FnV.of 33 [.tmp 4] Go.Proofs.Tryz.func30 rfl rfl rfl rfl (fun G hG => ?_)
  refine T.seq ?_
  refine T.region ?_
  refine TL.cons rfl (T1.boxN 3 rfl rfl (fun b2 => ?_))
  refine TL.cons rfl (T1.boxN 3 rfl rfl (fun b3 => ?_))
  refine TL.cons rfl (V1.t (V1.assign' z_D) ?_)
  refine TL.nil ?_
  refine T.seq ?_
  refine T.seq ?_
  refine T.drawTail 17 mixed (by decide +kernel) (by rfl) (by decide +kernel) rfl ?_
  refine Det.cons 0 (ins := [(2, _)]) (.old z_D (by decide +kernel) .nil) (fun e_ => .inl ⟨rfl, V1.t (V1.fieldAddr fl_24_0 rfl) ⟨rfl, rfl⟩⟩) ?_
  refine Det.cons 1 (ins := [(6, _)]) (.new 0 0 (by decide +kernel) rfl rfl .nil) (fun e_ => .inl ⟨rfl, V1.t (V1.load1 one_3 rfl (.own z_C (by rfl))) ⟨rfl, rfl⟩⟩) ?_
  refine Det.cons 2 (ins := [(3, _)]) (.old z_D (by decide +kernel) .nil) (fun e_ => .inl ⟨rfl, V1.t (V1.fieldAddr fl_24_0 rfl) ⟨rfl, rfl⟩⟩) ?_
  refine Det.cons 3 (ins := [(8, _)]) (.new 2 0 (by decide +kernel) rfl rfl .nil) (fun e_ => .inl ⟨rfl, V1.t (V1.load1 one_3 rfl (.own z_C (by rfl))) ⟨rfl, rfl⟩⟩) ?_
  refine Det.cons 4 (ins := [(7, _), (9, _)]) (v := .int .i64 (cmpI kx ky)) (.new 1 2 (by decide +kernel) rfl rfl (.new 3 0 (by decide +kernel) rfl rfl .nil)) (fun e_ => .inl ⟨rfl, ?_⟩) ?_
  · refine T1.call0 has_66 rfl (fun w hs => cmpI_any kx ky w) (fun v_ hv => ?_)
    obtain rfl := hv
    exact ⟨rfl, rfl⟩
  refine Det.cons 5 (ins := [(2, _)]) (.old z_D (by decide +kernel) .nil) (fun e_ => .inl ⟨rfl, V1.t (V1.fieldAddr fl_24_1 rfl) ⟨rfl, rfl⟩⟩) ?_
  refine Det.cons 6 (ins := [(11, _)]) (.new 5 0 (by decide +kernel) rfl rfl .nil) (fun e_ => .inl ⟨rfl, V1.t (V1.load1 one_9 rfl (.own z_C (by rfl))) ⟨rfl, rfl⟩⟩) ?_
  refine Det.cons 7 (ins := [(3, _)]) (.old z_D (by decide +kernel) .nil) (fun e_ => .inl ⟨rfl, V1.t (V1.fieldAddr fl_24_1 rfl) ⟨rfl, rfl⟩⟩) ?_
  refine Det.cons 8 (ins := [(13, _)]) (.new 7 0 (by decide +kernel) rfl rfl .nil) (fun e_ => .inl ⟨rfl, V1.t (V1.load1 one_9 rfl (.own z_C (by rfl))) ⟨rfl, rfl⟩⟩) ?_
  refine Det.cons 9 (ins := [(12, _), (14, _)]) (v := .int .i64 (cmpB nx ny)) (.new 6 2 (by decide +kernel) rfl rfl (.new 8 0 (by decide +kernel) rfl rfl .nil)) (fun e_ => .inl ⟨rfl, ?_⟩) ?_
  · refine T1.call0 has_67 rfl (fun w hs => scmp_any nx ny w) (fun v_ hv => ?_)
    obtain rfl := hv
    exact ⟨rfl, rfl⟩
  refine Det.cons 10 (ins := [(2, _)]) (.old z_D (by decide +kernel) .nil) (fun e_ => .inl ⟨rfl, V1.t (V1.fieldAddr fl_24_2 rfl) ⟨rfl, rfl⟩⟩) ?_
  refine Det.cons 11 (ins := [(16, _)]) (.new 10 0 (by decide +kernel) rfl rfl .nil) (fun e_ => .inl ⟨rfl, V1.t (V1.load1 one_22 rfl (.own z_C (by rfl))) ⟨rfl, rfl⟩⟩) ?_
  refine Det.cons 12 (ins := [(17, _)]) (.new 11 0 (by decide +kernel) rfl rfl .nil) (fun e_ => .inl ⟨rfl, V1.t (V1.lenSl ty_22 rfl) ⟨rfl, rfl⟩⟩) ?_
  refine Det.cons 13 (ins := [(3, _)]) (.old z_D (by decide +kernel) .nil) (fun e_ => .inl ⟨rfl, V1.t (V1.fieldAddr fl_24_2 rfl) ⟨rfl, rfl⟩⟩) ?_
  refine Det.cons 14 (ins := [(19, _)]) (.new 13 0 (by decide +kernel) rfl rfl .nil) (fun e_ => .inl ⟨rfl, V1.t (V1.load1 one_22 rfl (.own z_C (by rfl))) ⟨rfl, rfl⟩⟩) ?_
  refine Det.cons 15 (ins := [(20, _)]) (.new 14 0 (by decide +kernel) rfl rfl .nil) (fun e_ => .inl ⟨rfl, V1.t (V1.lenSl ty_22 rfl) ⟨rfl, rfl⟩⟩) ?_
  refine Det.cons 16 (ins := [(18, _), (21, _)]) (v := .int .i64 (cmpI (asx.length : Nat) (asy.length : Nat))) (.new 12 3 (by decide +kernel) rfl rfl (.new 15 0 (by decide +kernel) rfl rfl .nil)) (fun e_ => .inl ⟨rfl, ?_⟩) ?_
  · refine T1.call0 has_66 rfl (fun w hs => cmpI_any (asx.length : Nat) (asy.length : Nat) w) (fun v_ hv => ?_)
    obtain rfl := hv
    exact ⟨rfl, rfl⟩
  refine Det.nil 17 (l := [(2, _), (3, _), (10, _), (15, _), (22, _)]) (.old z_D (by decide +kernel) (.old z_D (by decide +kernel) (.new 4 12 (by decide +kernel) rfl rfl (.new 9 7 (by decide +kernel) rfl rfl (.new 16 0 (by decide +kernel) rfl rfl .nil))))) (fun e_ => ?_)
  refine (show TU _ _ _ 3 _ _ _ from ?_)
  refine TU.one 17 (by decide +kernel) rfl rfl (T1.buildSl1 (os := [.tmp 10, .tmp 15, .tmp 22]) ty_44 sz_3 zr_3 (by decide) rfl (.cons rfl (.cons rfl (.cons rfl .nil))) rfl (ones rfl) (fun b23 => ?_))
  refine TU.one 18 (by decide +kernel) rfl rfl (T1.callV has_65 rfl rfl (Or_any _ [(⟨b23, 0, [.int .i64 (cmpI kx ky), .int .i64 (cmpB nx ny), .int .i64 (cmpI (asx.length : Nat) (asy.length : Nat))], 3⟩ : Blk)] [(cmpI kx ky), (cmpB nx ny), (cmpI (asx.length : Nat) (asy.length : Nat))] _ (show RowR _ _ 1 _ 3 [.int .i64 (cmpI kx ky), .int .i64 (cmpB nx ny), .int .i64 (cmpI (asx.length : Nat) (asy.length : Nat))] from RowR.own (List.mem_cons_self ..) rfl) (show 3 ≤ maxN by decide)) z_E (fun v_ hv => ?_))
  obtain rfl := hv
  refine TU.one 19 (by decide +kernel) rfl rfl (V1.t (V1.assign' z_D) ?_)
  refine TU.done (by decide +kernel) ?_
  refine T.seq ?_
  refine T.region ?_
  refine TL.cons rfl (V1.t (V1.move' z_D) ?_)
  refine TL.cons rfl (T1.neI_split rfl rfl (fun h2 => ?_) (fun h2 => ?_))
  ·
    refine TL.nil ?_
    refine T.cond_t rfl ?_
    refine T.seq ?_
    refine T.region ?_
    refine TL.cons rfl (V1.t (V1.move' z_D) ?_)
    refine TL.cons rfl (V1.t (V1.assign' z_D) ?_)
    refine TL.nil ?_
    refine T.ret ?_
    exact ⟨_, G, _, .cons (.tmp z_D) .nil, z_A, rfl, congrArg (Value.int .i64) (by rw [cmpT]; exact or3_ne h2)⟩
  ·
    refine TL.nil ?_
    refine T.cond_f rfl ?_
    refine T.skip ?_
    refine T.seq ?_
    refine T.region ?_
    refine TL.cons rfl (V1.t (V1.fieldAddr fl_24_2 rfl) ?_)
    refine TL.cons rfl (V1.t (V1.load1 one_22 rfl (.own z_C (by rfl))) ?_)
    refine TL.cons rfl (V1.t (V1.fieldAddr fl_24_2 rfl) ?_)
    refine TL.cons rfl (V1.t (V1.load1 one_22 rfl (.own z_C (by rfl))) ?_)
    refine TL.cons rfl (T1.callV has_68 rfl rfl (CompareFunc_of _ Ps asx asy ih hrx htx hry hty hlx hly) z_E (fun v_ hv => ?_))
    obtain rfl := hv
    refine TL.cons rfl (V1.t (V1.assign' z_D) ?_)
    refine TL.nil ?_
    refine T.ret ?_
    exact ⟨_, G, _, .cons (.tmp z_D) .nil, z_A, rfl, congrArg (Value.int .i64) (by rw [cmpT]; exact or3_eq h2)⟩

theorem Compare_any (w0 : World) (x : Tm) : CmpAt w0 x := by
  induction x using Tm.ind with
  | h k n xs ih => exact fun y Ps cx cy hx hy => Compare_step w0 Ps ih y cx cy hx hy
end Go.Proofs.YtlpkcbkflfbclaaGreatDoor.S
