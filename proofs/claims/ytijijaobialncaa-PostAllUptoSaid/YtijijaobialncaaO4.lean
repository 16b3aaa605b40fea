/- Copies; whether a number is among some. -/
import Derived.Test.YtijijaobialncaaO3
namespace Go.Proofs.Ytijijaobialncaa.S
open Go.RowKit

set_option maxRecDepth 100000 in
theorem CloneK_some (w0 : World) (Ps : List Blk) {n c : Nat} {vs : List Value} {a : Addr} (hr : RowR w0 Ps 32 (.slice (some a) n c) n vs) (h1 : ∀ u ∈ vs, one u = true) (hn : n ≤ 1000000) : FnG P 44 [.slice (some a) n c] w0 Ps [] (fun v Y => Sl v vs 32 Y) := by
  refine FnG.of 8 [.tmp 2] Go.Proofs.Try.func44 rfl rfl rfl rfl (fun G hG => ?_)
  refine T.seq ?_
  refine T.region ?_
  refine TL.cons rfl (V1.t (V1.assign' z_B) ?_)
  refine TL.nil ?_
  refine T.seq ?_
  refine T.seq ?_
  refine T.region ?_
  refine TL.cons rfl (V1.t (V1.move' z_B) ?_)
  refine TL.cons rfl (V1.t (V1.eqSlNil ty_35 rfl rfl) ?_)
  refine TL.nil ?_
  refine T.cond_f rfl ?_
  refine T.skip ?_
  refine T.seq ?_
  refine T.region ?_
  refine TL.cons rfl (T1.buildNone0 ty_35 sz_60 zr_60 (fun b5 => ?_))
  refine TL.cons rfl (V1.t (V1.move' z_B) ?_)
  refine TL.cons rfl (T1.append ty_35 kd_35 sz_60 by_60 zr_60 rfl (by decide) (by decide) rfl rfl Sl.none0 (hr.src _ rfl rfl _ z_E) h1 1000000 (by have := hr.len; simp only [List.length_nil]; omega) (by decide) z_C (fun s1 Ls1 hsl1 => ?_))
  rw [List.nil_append] at hsl1
  refine TL.cons rfl (V1.t (V1.assign' z_B) ?_)
  refine TL.nil ?_
  refine T.ret ?_
  exact ⟨_, Ls1 ++ G, _, .cons (.tmp z_B) .nil, z_A, Ls1, rfl, hsl1⟩

set_option maxRecDepth 100000 in
theorem CloneK_none (w0 : World) (Ps : List Blk) {n c : Nat} : FnG P 44 [.slice none n c] w0 Ps [] (fun v Y => Sl v [] 32 Y) := by
  refine FnG.of 8 [.tmp 2] Go.Proofs.Try.func44 rfl rfl rfl rfl (fun G hG => ?_)
  refine T.seq ?_
  refine T.region ?_
  refine TL.cons rfl (V1.t (V1.assign' z_B) ?_)
  refine TL.nil ?_
  refine T.seq ?_
  refine T.seq ?_
  refine T.region ?_
  refine TL.cons rfl (V1.t (V1.move' z_B) ?_)
  refine TL.cons rfl (V1.t (V1.eqSlNil ty_35 rfl rfl) ?_)
  refine TL.nil ?_
  refine T.cond_t rfl ?_
  refine T.seq ?_
  refine T.region ?_
  refine TL.cons rfl (V1.t (V1.assign' z_B) ?_)
  refine TL.nil ?_
  refine T.ret ?_
  exact ⟨_, G, _, .cons (.tmp z_B) .nil, z_A, [], rfl, Sl.nil⟩

theorem CloneK_any (w0 : World) (Ps : List Blk) {n : Nat} {s : Value} {vs : List Value} (hr : RowR w0 Ps 32 s n vs) (h1 : ∀ u ∈ vs, one u = true) (hn : n ≤ 1000000) : FnG P 44 [s] w0 Ps [] (fun v Y => Sl v vs 32 Y) := by
  obtain ⟨a, c, rfl⟩ := hr.form
  rcases a with _ | a
  · obtain ⟨_, rfl⟩ := hr.none0 P
    exact CloneK_none w0 Ps
  · exact CloneK_some w0 Ps hr h1 hn
set_option maxRecDepth 100000 in
theorem CloneN_some (w0 : World) (Ps : List Blk) {n c : Nat} {vs : List Value} {a : Addr} (hr : RowR w0 Ps 1 (.slice (some a) n c) n vs) (h1 : ∀ u ∈ vs, one u = true) (hn : n ≤ 1000000) : FnG P 45 [.slice (some a) n c] w0 Ps [] (fun v Y => Sl v vs 1 Y) := by
  refine FnG.of 8 [.tmp 2] Go.Proofs.Try.func45 rfl rfl rfl rfl (fun G hG => ?_)
  refine T.seq ?_
  refine T.region ?_
  refine TL.cons rfl (V1.t (V1.assign' z_B) ?_)
  refine TL.nil ?_
  refine T.seq ?_
  refine T.seq ?_
  refine T.region ?_
  refine TL.cons rfl (V1.t (V1.move' z_B) ?_)
  refine TL.cons rfl (V1.t (V1.eqSlNil ty_36 rfl rfl) ?_)
  refine TL.nil ?_
  refine T.cond_f rfl ?_
  refine T.skip ?_
  refine T.seq ?_
  refine T.region ?_
  refine TL.cons rfl (T1.buildNone0 ty_36 sz_27 zr_27 (fun b5 => ?_))
  refine TL.cons rfl (V1.t (V1.move' z_B) ?_)
  refine TL.cons rfl (T1.append ty_36 kd_36 sz_27 by_27 zr_27 rfl (by decide) (by decide) rfl rfl Sl.none0 (hr.src _ rfl rfl _ z_E) h1 1000000 (by have := hr.len; simp only [List.length_nil]; omega) (by decide) z_C (fun s1 Ls1 hsl1 => ?_))
  rw [List.nil_append] at hsl1
  refine TL.cons rfl (V1.t (V1.assign' z_B) ?_)
  refine TL.nil ?_
  refine T.ret ?_
  exact ⟨_, Ls1 ++ G, _, .cons (.tmp z_B) .nil, z_A, Ls1, rfl, hsl1⟩

set_option maxRecDepth 100000 in
theorem CloneN_none (w0 : World) (Ps : List Blk) {n c : Nat} : FnG P 45 [.slice none n c] w0 Ps [] (fun v Y => Sl v [] 1 Y) := by
  refine FnG.of 8 [.tmp 2] Go.Proofs.Try.func45 rfl rfl rfl rfl (fun G hG => ?_)
  refine T.seq ?_
  refine T.region ?_
  refine TL.cons rfl (V1.t (V1.assign' z_B) ?_)
  refine TL.nil ?_
  refine T.seq ?_
  refine T.seq ?_
  refine T.region ?_
  refine TL.cons rfl (V1.t (V1.move' z_B) ?_)
  refine TL.cons rfl (V1.t (V1.eqSlNil ty_36 rfl rfl) ?_)
  refine TL.nil ?_
  refine T.cond_t rfl ?_
  refine T.seq ?_
  refine T.region ?_
  refine TL.cons rfl (V1.t (V1.assign' z_B) ?_)
  refine TL.nil ?_
  refine T.ret ?_
  exact ⟨_, G, _, .cons (.tmp z_B) .nil, z_A, [], rfl, Sl.nil⟩

theorem CloneN_any (w0 : World) (Ps : List Blk) {n : Nat} {s : Value} {vs : List Value} (hr : RowR w0 Ps 1 s n vs) (h1 : ∀ u ∈ vs, one u = true) (hn : n ≤ 1000000) : FnG P 45 [s] w0 Ps [] (fun v Y => Sl v vs 1 Y) := by
  obtain ⟨a, c, rfl⟩ := hr.form
  rcases a with _ | a
  · obtain ⟨_, rfl⟩ := hr.none0 P
    exact CloneN_none w0 Ps
  · exact CloneN_some w0 Ps hr h1 hn
set_option maxRecDepth 100000 in
theorem CloneS_some (w0 : World) (Ps : List Blk) {n c : Nat} {vs : List Value} {a : Addr} (hr : RowR w0 Ps 64 (.slice (some a) n c) n vs) (h1 : ∀ u ∈ vs, one u = true) (hn : n ≤ 1000000) : FnG P 46 [.slice (some a) n c] w0 Ps [] (fun v Y => Sl v vs 64 Y) := by
  refine FnG.of 8 [.tmp 2] Go.Proofs.Try.func46 rfl rfl rfl rfl (fun G hG => ?_)
  refine T.seq ?_
  refine T.region ?_
  refine TL.cons rfl (V1.t (V1.assign' z_B) ?_)
  refine TL.nil ?_
  refine T.seq ?_
  refine T.seq ?_
  refine T.region ?_
  refine TL.cons rfl (V1.t (V1.move' z_B) ?_)
  refine TL.cons rfl (V1.t (V1.eqSlNil ty_37 rfl rfl) ?_)
  refine TL.nil ?_
  refine T.cond_f rfl ?_
  refine T.skip ?_
  refine T.seq ?_
  refine T.region ?_
  refine TL.cons rfl (T1.buildNone0 ty_37 sz_86 zr_86 (fun b5 => ?_))
  refine TL.cons rfl (V1.t (V1.move' z_B) ?_)
  refine TL.cons rfl (T1.append ty_37 kd_37 sz_86 by_86 zr_86 rfl (by decide) (by decide) rfl rfl Sl.none0 (hr.src _ rfl rfl _ z_E) h1 1000000 (by have := hr.len; simp only [List.length_nil]; omega) (by decide) z_C (fun s1 Ls1 hsl1 => ?_))
  rw [List.nil_append] at hsl1
  refine TL.cons rfl (V1.t (V1.assign' z_B) ?_)
  refine TL.nil ?_
  refine T.ret ?_
  exact ⟨_, Ls1 ++ G, _, .cons (.tmp z_B) .nil, z_A, Ls1, rfl, hsl1⟩

set_option maxRecDepth 100000 in
theorem CloneS_none (w0 : World) (Ps : List Blk) {n c : Nat} : FnG P 46 [.slice none n c] w0 Ps [] (fun v Y => Sl v [] 64 Y) := by
  refine FnG.of 8 [.tmp 2] Go.Proofs.Try.func46 rfl rfl rfl rfl (fun G hG => ?_)
  refine T.seq ?_
  refine T.region ?_
  refine TL.cons rfl (V1.t (V1.assign' z_B) ?_)
  refine TL.nil ?_
  refine T.seq ?_
  refine T.seq ?_
  refine T.region ?_
  refine TL.cons rfl (V1.t (V1.move' z_B) ?_)
  refine TL.cons rfl (V1.t (V1.eqSlNil ty_37 rfl rfl) ?_)
  refine TL.nil ?_
  refine T.cond_t rfl ?_
  refine T.seq ?_
  refine T.region ?_
  refine TL.cons rfl (V1.t (V1.assign' z_B) ?_)
  refine TL.nil ?_
  refine T.ret ?_
  exact ⟨_, G, _, .cons (.tmp z_B) .nil, z_A, [], rfl, Sl.nil⟩

theorem CloneS_any (w0 : World) (Ps : List Blk) {n : Nat} {s : Value} {vs : List Value} (hr : RowR w0 Ps 64 s n vs) (h1 : ∀ u ∈ vs, one u = true) (hn : n ≤ 1000000) : FnG P 46 [s] w0 Ps [] (fun v Y => Sl v vs 64 Y) := by
  obtain ⟨a, c, rfl⟩ := hr.form
  rcases a with _ | a
  · obtain ⟨_, rfl⟩ := hr.none0 P
    exact CloneS_none w0 Ps
  · exact CloneS_some w0 Ps hr h1 hn
set_option maxRecDepth 100000 in
theorem CloneB_some (w0 : World) (Ps : List Blk) {n c : Nat} {vs : List Value} {a : Addr} (hr : RowR w0 Ps 1 (.slice (some a) n c) n vs) (h1 : ∀ u ∈ vs, one u = true) (hn : n ≤ 1000000) : FnG P 27 [.slice (some a) n c] w0 Ps [] (fun v Y => Sl v vs 1 Y) := by
  refine FnG.of 8 [.tmp 2] Go.Proofs.Try.func27 rfl rfl rfl rfl (fun G hG => ?_)
  refine T.seq ?_
  refine T.region ?_
  refine TL.cons rfl (V1.t (V1.assign' z_B) ?_)
  refine TL.nil ?_
  refine T.seq ?_
  refine T.seq ?_
  refine T.region ?_
  refine TL.cons rfl (V1.t (V1.move' z_B) ?_)
  refine TL.cons rfl (V1.t (V1.eqSlNil ty_29 rfl rfl) ?_)
  refine TL.nil ?_
  refine T.cond_f rfl ?_
  refine T.skip ?_
  refine T.seq ?_
  refine T.region ?_
  refine TL.cons rfl (T1.buildNone0 ty_29 sz_5 zr_5 (fun b5 => ?_))
  refine TL.cons rfl (V1.t (V1.move' z_B) ?_)
  refine TL.cons rfl (T1.append ty_29 kd_29 sz_5 by_5 zr_5 rfl (by decide) (by decide) rfl rfl Sl.none0 (hr.src _ rfl rfl _ z_E) h1 1000000 (by have := hr.len; simp only [List.length_nil]; omega) (by decide) z_C (fun s1 Ls1 hsl1 => ?_))
  rw [List.nil_append] at hsl1
  refine TL.cons rfl (V1.t (V1.assign' z_B) ?_)
  refine TL.nil ?_
  refine T.ret ?_
  exact ⟨_, Ls1 ++ G, _, .cons (.tmp z_B) .nil, z_A, Ls1, rfl, hsl1⟩

set_option maxRecDepth 100000 in
theorem CloneB_none (w0 : World) (Ps : List Blk) {n c : Nat} : FnG P 27 [.slice none n c] w0 Ps [] (fun v Y => Sl v [] 1 Y) := by
  refine FnG.of 8 [.tmp 2] Go.Proofs.Try.func27 rfl rfl rfl rfl (fun G hG => ?_)
  refine T.seq ?_
  refine T.region ?_
  refine TL.cons rfl (V1.t (V1.assign' z_B) ?_)
  refine TL.nil ?_
  refine T.seq ?_
  refine T.seq ?_
  refine T.region ?_
  refine TL.cons rfl (V1.t (V1.move' z_B) ?_)
  refine TL.cons rfl (V1.t (V1.eqSlNil ty_29 rfl rfl) ?_)
  refine TL.nil ?_
  refine T.cond_t rfl ?_
  refine T.seq ?_
  refine T.region ?_
  refine TL.cons rfl (V1.t (V1.assign' z_B) ?_)
  refine TL.nil ?_
  refine T.ret ?_
  exact ⟨_, G, _, .cons (.tmp z_B) .nil, z_A, [], rfl, Sl.nil⟩

theorem CloneB_any (w0 : World) (Ps : List Blk) {n : Nat} {s : Value} {vs : List Value} (hr : RowR w0 Ps 1 s n vs) (h1 : ∀ u ∈ vs, one u = true) (hn : n ≤ 1000000) : FnG P 27 [s] w0 Ps [] (fun v Y => Sl v vs 1 Y) := by
  obtain ⟨a, c, rfl⟩ := hr.form
  rcases a with _ | a
  · obtain ⟨_, rfl⟩ := hr.none0 P
    exact CloneB_none w0 Ps
  · exact CloneB_some w0 Ps hr h1 hn
theorem u32_ones (l : List Nat) : ∀ u ∈ l.map u32V, one u = true := by
  intro u hu
  obtain ⟨n, _, rfl⟩ := List.mem_map.1 hu
  rfl
set_option maxRecDepth 100000 in
set_option maxHeartbeats 8000000 in
theorem copied_any (w0 : World) (Ps : List Blk) {v : Value} {f : Frm} (h : FrmR w0 Ps v f) (hf : f.Few) : FnG P 33 [v] w0 Ps [] (fun v Y => ∃ cs, v = .agg cs.toArray ∧ FrmO cs f Y) := by
  obtain ⟨⟨sk, sn, ss, sd, rfl, rk, rn, rs, rd⟩, hw⟩ := h
  refine FnG.of 18 [.cell 2 39] Go.Proofs.Try.func33 rfl rfl rfl rfl (fun G hG => ?_)
  refine T.seq ?_
  refine T.region ?_
  refine TL.cons rfl (T1.boxN 5 rfl rfl (fun b1 => ?_))
  refine TL.cons rfl (T1.allocN 5 zr_39 rfl (fun b2 => ?_))
  refine TL.nil ?_
  refine T.seq ?_
  refine T.drawX (fun L_ => Find L_ ⟨b1, 0, [.int .i64 f.kind, sk, sn, ss, sd], 5⟩ ∧ Inc Ps L_) 15 mixed ⟨z_D, z_E⟩ ?_
  refine TX.take 0 rfl z_F z_F z_F z_F rfl (fun _ _ _ h => h) (fun L_ ⟨k1_, k2_⟩ => V1.fieldAddr fl_39_0 rfl) ?_
  refine TX.take 1 rfl z_F z_F z_F z_F rfl (fun _ _ _ h => h) (fun L_ ⟨k1_, k2_⟩ => V1.load1 (v := .int .i64 f.kind) one_3 rfl (.own (cells := [.int .i64 f.kind, sk, sn, ss, sd]) z_D (by rfl))) ?_
  refine TX.take 2 rfl z_F z_F z_F z_F rfl (fun _ _ _ h => h) (fun L_ ⟨k1_, k2_⟩ => V1.fieldAddr fl_39_1 rfl) ?_
  refine TX.take 3 rfl z_F z_F z_F z_F rfl (fun _ _ _ h => h) (fun L_ ⟨k1_, k2_⟩ => V1.load1 (v := sk) one_35 rfl (.own (cells := [.int .i64 f.kind, sk, sn, ss, sd]) z_D (by rfl))) ?_
  refine TX.take 5 rfl z_F z_F z_F z_F rfl (fun _ _ _ h => h) (fun L_ ⟨k1_, k2_⟩ => V1.fieldAddr fl_39_2 rfl) ?_
  refine TX.take 6 rfl z_F z_F z_F z_F rfl (fun _ _ _ h => h) (fun L_ ⟨k1_, k2_⟩ => V1.load1 (v := sn) one_36 rfl (.own (cells := [.int .i64 f.kind, sk, sn, ss, sd]) z_D (by rfl))) ?_
  refine TX.take 8 rfl z_F z_F z_F z_F rfl (fun _ _ _ h => h) (fun L_ ⟨k1_, k2_⟩ => V1.fieldAddr fl_39_3 rfl) ?_
  refine TX.take 9 rfl z_F z_F z_F z_F rfl (fun _ _ _ h => h) (fun L_ ⟨k1_, k2_⟩ => V1.load1 (v := ss) one_37 rfl (.own (cells := [.int .i64 f.kind, sk, sn, ss, sd]) z_D (by rfl))) ?_
  refine TX.take 11 rfl z_F z_F z_F z_F rfl (fun _ _ _ h => h) (fun L_ ⟨k1_, k2_⟩ => V1.fieldAddr fl_39_4 rfl) ?_
  refine TX.take 12 rfl z_F z_F z_F z_F rfl (fun _ _ _ h => h) (fun L_ ⟨k1_, k2_⟩ => V1.load1 (v := sd) one_29 rfl (.own (cells := [.int .i64 f.kind, sk, sn, ss, sd]) z_D (by rfl))) ?_
  refine TX.one 4 z_F rfl rfl (T1.callC has_44 rfl rfl (CloneK_any w0 Ps rk.row (one_bytes _) (by have := hf.keys; omega)) z_E (fun v_k Xk hk => ?_))
  refine ⟨⟨z_D, z_E⟩, ?_⟩
  refine TX.one 7 z_F rfl rfl (T1.callC has_45 rfl rfl (CloneN_any w0 Ps rn.row (u32_ones _) (by have := hf.nums; omega)) z_E (fun v_n Xn hnn => ?_))
  refine ⟨⟨z_D, z_E⟩, ?_⟩
  refine TX.one 10 z_F rfl rfl (T1.callC has_46 rfl rfl (CloneS_any w0 Ps rs.row (one_bytes _) (by have := hf.sigs; omega)) z_E (fun v_x Xx hx => ?_))
  refine ⟨⟨z_D, z_E⟩, ?_⟩
  refine TX.one 13 z_F rfl rfl (T1.callC has_27 rfl rfl (CloneB_any w0 Ps rd (one_bytes _) (by have := hf.data; omega)) z_E (fun v_d Xd hdd => ?_))
  refine ⟨⟨z_D, z_E⟩, ?_⟩
  refine TX.take 14 rfl z_F z_F z_F z_F rfl (fun _ _ _ h => h) (fun L_ ⟨k1_, k2_⟩ => V1.buildF pl_39 zr_39 (.one rfl z_B rfl (.one rfl z_B hk.one (.one rfl z_B hnn.one (.one rfl z_B hx.one (.one rfl z_B hdd.one .nil))))) z_I) ?_
  refine TX.oneK z_F rfl rfl (T1.storeN (vs := [.int .i64 f.kind, v_k, v_n, v_x, v_d]) rfl rfl sz_39 (by intro u hu; simp only [List.mem_cons, List.not_mem_nil, or_false] at hu; rcases hu with rfl | rfl | rfl | rfl | rfl; rfl; exact hk.one; exact hnn.one; exact hx.one; exact hdd.one) z_H (by rfl) (by rfl) ?_)
  refine TX.done z_F ?_
  refine T.ret ?_
  exact ⟨_, Xk ++ (Xn ++ (Xx ++ (Xd ++ G))), _, .cons (.cellN rfl one_39 sz_39 (RdN.whole z_D) (by rfl)) .nil, z_A, Xk ++ (Xn ++ (Xx ++ Xd)), by simp only [List.append_assoc], _, rfl, _, _, _, _, Xk, Xn, Xx, Xd, rfl, hk, hnn, hx, hdd, rfl⟩

def inI (ns : List Nat) (w : Int) : Bool := decide (∃ n ∈ ns, (n : Int) = w)
set_option maxRecDepth 100000 in
theorem Index_any (w0 : World) (Ps : List Blk) {ns : List Nat} {a : Option Addr} {c : Nat} (hr : RowR w0 Ps 1 (.slice a ns.length c) ns.length (ns.map u32V)) (hn6 : ns.length ≤ 1099511627776) (w : Int) : FnV P 43 [.slice a ns.length c, .int .u32 w] w0 Ps (fun v => ∃ r, v = .int .i64 r ∧ (0 ≤ r ↔ ∃ n ∈ ns, (n : Int) = w)) := by
  refine FnV.of 19 [.tmp 4] Go.Proofs.Try.func43 rfl rfl rfl rfl (fun G hG => ?_)
  refine T.seq ?_
  refine T.region ?_
  refine TL.cons rfl (V1.t (V1.assign' z_B) ?_)
  refine TL.nil ?_
  refine T.seq ?_
  refine T.seq ?_
  refine T.region ?_
  refine TL.cons rfl (V1.t (V1.move' z_B) ?_)
  refine TL.cons rfl (V1.t (V1.lenSl ty_36 rfl) ?_)
  refine TL.cons rfl (V1.t (V1.move' z_B) ?_)
  refine TL.nil ?_
  refine T.block ?_
  refine T.loopL (σ := Nat) (l0 := [(0, _), (1, _), (7, _)]) (fun x => [(8, .int .i64 (x : Nat))]) (fun i L => L = G ∧ i ≤ ns.length ∧ ∀ y ∈ ns.take i, (y : Int) ≠ w) (fun i => ns.length - i) 0 (.cons rfl .nil) (.cons z_B (.cons z_B (.cons z_B .nil))) z_A (⟨rfl, Nat.zero_le _, by simp⟩) ?_
  rintro i e_ L ⟨hL, hi, ho⟩
  obtain rfl := hL.symm
  refine T.seq ?_
  refine T.region ?_
  refine TL.cons rfl (T1.ltI_split rfl rfl (fun h2 => ?_) (fun h2 => ?_))
  ·
    obtain ⟨n, hx0⟩ : ∃ n, ns[i]? = some n := ⟨_, List.getElem?_eq_getElem (by omega)⟩
    obtain ⟨b, o, rfl, hrd⟩ := hr.at (by omega) P
    refine TL.nil ?_
    refine T.seq ?_
    refine T.cond_t rfl ?_
    refine T.skip ?_
    refine T.seq ?_
    refine T.block ?_
    refine T.seq ?_
    refine T.region ?_
    refine TL.cons rfl (V1.t (V1.move' z_B) ?_)
    refine TL.cons rfl (V1.t (V1.assign' z_B) ?_)
    refine TL.nil ?_
    refine T.seq ?_
    refine T.region ?_
    refine TL.cons rfl (V1.t (V1.move' z_B) ?_)
    refine TL.cons rfl (V1.t (V1.move' z_B) ?_)
    refine TL.cons rfl (V1.t (V1.move' z_B) ?_)
    refine TL.cons rfl (V1.t (V1.indexAddrS ty_36 sz_27 rfl rfl (by omega) (by omega)) ?_)
    refine TL.cons rfl (V1.t (V1.load1 (v := u32V n) one_27 rfl (show Rd _ _ ⟨_, _ + i * 1, none⟩ _ from by rw [Nat.mul_one]; exact hrd _ rfl rfl _ z_E i _ (by rw [List.getElem?_map, hx0]; rfl))) ?_)
    refine TL.cons rfl (T1.eqI_split rfl rfl (fun h4 => ?_) (fun h4 => ?_))
    ·
      refine TL.nil ?_
      refine T.cond_t rfl ?_
      refine T.seq ?_
      refine T.region ?_
      refine TL.cons rfl (V1.t (V1.move' z_B) ?_)
      refine TL.cons rfl (V1.t (V1.assign' z_B) ?_)
      refine TL.nil ?_
      refine T.ret ?_
      exact ⟨_, G, _, .cons (.tmp z_B) .nil, z_A, rfl, _, rfl, ⟨fun _ => ⟨n, List.mem_of_getElem? hx0, h4.symm⟩, fun _ => by omega⟩⟩
    ·
      refine TL.nil ?_
      refine T.cond_f rfl ?_
      refine T.skip ?_
      refine T.region ?_
      refine TL.cons rfl (V1.t (V1.add (c := ((i + 1 : Nat) : Int)) rfl rfl (by rw [wrap_i64 _ (by omega) (by omega)]; omega)) ?_)
      refine TL.cons rfl (V1.t (V1.move' z_B) ?_)
      refine TL.nil ?_
      exact ⟨i + 1, G, _, (by simp only; omega), (.cons rfl .nil), (.cons rfl (.cons rfl (.cons rfl .nil))), z_A, ⟨rfl, by omega, by rw [take_nat hx0]; intro y hy; rcases List.mem_append.1 hy with hy | hy; exact ho y hy; rw [List.mem_singleton] at hy; subst hy; exact Ne.symm h4⟩⟩
  ·
    obtain rfl : i = ns.length := by omega
    rw [List.take_length] at ho
    refine TL.nil ?_
    refine T.seq ?_
    refine T.cond_f rfl ?_
    refine T.exit ?_
    refine T.seq ?_
    refine T.region ?_
    refine TL.cons rfl (V1.t (V1.assign' z_B) ?_)
    refine TL.nil ?_
    refine T.ret ?_
    exact ⟨_, G, _, .cons (.tmp z_B) .nil, z_A, rfl, _, rfl, ⟨fun h => by omega, fun ⟨y, hy, e⟩ => absurd e (ho y hy)⟩⟩

set_option maxRecDepth 100000 in
theorem Contains_us (w0 : World) (Ps : List Blk) {ns : List Nat} {a : Option Addr} {c : Nat} (hr : RowR w0 Ps 1 (.slice a ns.length c) ns.length (ns.map u32V)) (hn6 : ns.length ≤ 1099511627776) (w : Int) : FnV P 26 [.slice a ns.length c, .int .u32 w] w0 Ps (fun v => v = .bool (inI ns w)) := by
  refine FnV.of 9 [.tmp 4] Go.Proofs.Try.func26 rfl rfl rfl rfl (fun G hG => ?_)
  refine T.seq ?_
  refine T.region ?_
  refine TL.cons rfl (V1.t (V1.assign' z_B) ?_)
  refine TL.nil ?_
  refine T.seq ?_
  refine T.region ?_
  refine TL.cons rfl (V1.t (V1.move' z_B) ?_)
  refine TL.cons rfl (V1.t (V1.move' z_B) ?_)
  refine TL.cons rfl (T1.callV has_43 rfl rfl (Index_any w0 Ps hr hn6 w) z_E (fun v_ hv => ?_))
  obtain ⟨r, rfl, hr_⟩ := hv
  refine TL.cons rfl (V1.t (V1.geI (r := decide (r ≥ 0)) rfl rfl rfl) ?_)
  refine TL.cons rfl (V1.t (V1.assign' z_B) ?_)
  refine TL.nil ?_
  refine T.ret ?_
  exact ⟨_, G, _, .cons (.tmp z_B) .nil, z_A, rfl, congrArg Value.bool (by unfold inI; exact decide_eq_decide.2 hr_)⟩

theorem Contains_any (w0 : World) (Ps : List Blk) {ns : List Nat} {s : Value} (hr : RowR w0 Ps 1 s ns.length (ns.map u32V)) (hn6 : ns.length ≤ 1099511627776) (w : Int) : FnV P 26 [s, .int .u32 w] w0 Ps (fun v => v = .bool (inI ns w)) := by
  obtain ⟨a, c, rfl⟩ := hr.form
  exact Contains_us w0 Ps hr hn6 w
end Go.Proofs.Ytijijaobialncaa.S
