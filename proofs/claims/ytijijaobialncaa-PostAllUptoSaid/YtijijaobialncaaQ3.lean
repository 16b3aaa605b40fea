/- Rows of numbers put in order: the whole sort. -/
import Derived.Test.YtijijaobialncaaQ2
namespace Go.Proofs.Ytijijaobialncaa.S
open Go.RowKit

theorem lenC : ∀ n : Nat, n < 256 → 0 < n → sLen[((n : Nat) : Int).toNat]? = some (UInt8.ofNat (Nat.log2 n + 1)) ∧ Nat.log2 n < 8 := by decide +kernel
theorem mask_lt : ∀ k : Nat, k ≤ 8 → ((1#64 <<< k) - 1#64).toNat < 2 ^ k := by decide +kernel
theorem and_mask (x : BitVec 64) {k : Nat} (h : k ≤ 8) : (x &&& ((1#64 <<< k) - 1#64)).toNat < 2 ^ k := by
  rw [BitVec.toNat_and]; exact Nat.and_lt_two_pow _ (mask_lt k h)
theorem log2_le {m : Nat} (h : 0 < m) : 2 ^ (Nat.log2 m + 1) ≤ 2 * m := by
  have := Nat.log2_self_le (n := m) (by omega)
  rw [Nat.pow_succ]; omega
set_option maxRecDepth 100000 in
theorem Len64X (w0 : World) (n : Nat) (hn : n < 256) (h0 : 0 < n) : FnV P 70 [.int .u64 (n : Nat)] w0 [] (fun v => v = .int .i64 ((Nat.log2 n + 1 : Nat) : Int)) := by
  obtain ⟨hc, hlg⟩ := lenC n hn h0
  obtain ⟨c, hcc⟩ : ∃ c, c = UInt8.ofNat (Nat.log2 n + 1) := ⟨_, rfl⟩
  rw [← hcc] at hc
  refine FnV.of 25 [.tmp 2] Go.Proofs.Try.func70 rfl rfl rfl rfl (fun G hG => ?_)
  refine T.seq ?_
  refine T.region ?_
  refine TL.cons rfl (V1.t (V1.assign' z_B) ?_)
  refine TL.nil ?_
  refine T.seq ?_
  refine T.seq ?_
  refine T.region ?_
  refine TL.cons rfl (V1.t (V1.move' z_B) ?_)
  refine TL.cons rfl (V1.t (V1.geI (r := false) rfl rfl (decide_eq_false (by omega))) ?_)
  refine TL.nil ?_
  refine T.cond_f rfl ?_
  refine T.skip ?_
  refine T.seq ?_
  refine T.seq ?_
  refine T.region ?_
  refine TL.cons rfl (V1.t (V1.move' z_B) ?_)
  refine TL.cons rfl (V1.t (V1.geI (r := false) rfl rfl (decide_eq_false (by omega))) ?_)
  refine TL.nil ?_
  refine T.cond_f rfl ?_
  refine T.skip ?_
  refine T.seq ?_
  refine T.seq ?_
  refine T.region ?_
  refine TL.cons rfl (V1.t (V1.move' z_B) ?_)
  refine TL.cons rfl (V1.t (V1.geI (r := false) rfl rfl (decide_eq_false (by omega))) ?_)
  refine TL.nil ?_
  refine T.cond_f rfl ?_
  refine T.skip ?_
  refine T.seq ?_
  refine T.region ?_
  refine TL.cons rfl (V1.t (V1.move' z_B) ?_)
  refine TL.cons rfl (V1.t (V1.move' z_B) ?_)
  refine TL.cons rfl (V1.t (V1.conv (c := (n : Int)) ty_141 ty_5 rfl (wrap_u8 _ (by omega) (by omega))) ?_)
  refine TL.cons rfl (V1.t (V1.indexStr (s := sLen) (c := c) ty_9 (show _ = Value.string sLen from congrArg Value.string z_F) rfl (by omega) hc) ?_)
  have hc8 : c.toNat = Nat.log2 n + 1 := by rw [hcc, UInt8.toNat_ofNat']; exact Nat.mod_eq_of_lt (by omega)
  refine TL.cons rfl (V1.t (V1.conv (c := ((c.toNat : Nat) : Int)) ty_5 ty_3 rfl (wrap_i64 _ (by omega) (by omega))) ?_)
  refine TL.cons rfl (V1.t (V1.add (c := ((Nat.log2 n + 1 : Nat) : Int)) rfl rfl (by rw [wrap_i64 _ (by omega) (by omega)]; omega)) ?_)
  refine TL.cons rfl (V1.t (V1.assign' z_B) ?_)
  refine TL.nil ?_
  refine T.ret ?_
  exact ⟨_, G, _, .cons (.tmp z_B) .nil, z_A, rfl, rfl⟩

set_option maxRecDepth 100000 in
theorem LenX (w0 : World) (n : Nat) (hn : n < 256) (h0 : 0 < n) : FnV P 59 [.int .u64 (n : Nat)] w0 [] (fun v => v = .int .i64 ((Nat.log2 n + 1 : Nat) : Int)) := by
  refine FnV.of 8 [.tmp 2] Go.Proofs.Try.func59 rfl rfl rfl rfl (fun G hG => ?_)
  refine T.seq ?_
  refine T.region ?_
  refine TL.cons rfl (V1.t (V1.assign' z_B) ?_)
  refine TL.nil ?_
  refine T.seq ?_
  refine T.cond_f rfl ?_
  refine T.skip ?_
  refine T.seq ?_
  refine T.region ?_
  refine TL.cons rfl (V1.t (V1.move' z_B) ?_)
  refine TL.cons rfl (T1.callV has_70 rfl rfl (Len64X w0 n hn h0) z_E (fun v_ hv => ?_))
  subst hv
  refine TL.cons rfl (V1.t (V1.assign' z_B) ?_)
  refine TL.nil ?_
  refine T.ret ?_
  exact ⟨_, G, _, .cons (.tmp z_B) .nil, z_A, rfl, rfl⟩

set_option maxRecDepth 100000 in
theorem npowG (w0 : World) (m : Nat) (hm : m < 256) (h0 : 0 < m) : FnV P 72 [.int .i64 ((m : Nat) : Int)] w0 [] (fun v => v = .int .u64 (1#64 <<< (Nat.log2 m + 1)).toNat) := by
  refine FnV.of 7 [.tmp 2] Go.Proofs.Try.func72 rfl rfl rfl rfl (fun G hG => ?_)
  refine T.seq ?_
  refine T.region ?_
  refine TL.cons rfl (V1.t (V1.assign' z_B) ?_)
  refine TL.nil ?_
  refine T.seq ?_
  refine T.region ?_
  refine TL.cons rfl (V1.t (V1.move' z_B) ?_)
  refine TL.cons rfl (V1.t (V1.conv (c := ((m : Nat) : Int)) ty_3 ty_110 rfl (wrap_u64 _ (by omega) (by omega))) ?_)
  refine TL.cons rfl (T1.callV has_59 rfl rfl (LenX w0 m hm h0) z_E (fun v_ hv => ?_))
  subst hv
  refine TL.cons rfl (V1.t (V1.shlW (a := 1#64) (k := Nat.log2 m + 1) u64U rfl rfl) ?_)
  refine TL.cons rfl (V1.t (V1.assign' z_B) ?_)
  refine TL.nil ?_
  refine T.ret ?_
  exact ⟨_, G, _, .cons (.tmp z_B) .nil, z_A, rfl, rfl⟩

set_option maxRecDepth 100000 in
set_option maxHeartbeats 8000000 in
theorem xsNextG (w0 : World) (br : Nat) (r : BitVec 64) : FnG P 73 [.pointer (some ⟨br, 0, none⟩)] w0 [] [(⟨br, 0, [.int .u64 (r).toNat], 1⟩ : Blk)] (fun v Y => ∃ r2 : BitVec 64, Y = [(⟨br, 0, [.int .u64 (r2).toNat], 1⟩ : Blk)] ∧ v = .int .u64 (r2).toNat) := by
  refine FnG.of 33 [.tmp 2] Go.Proofs.Try.func73 rfl rfl rfl rfl (fun G hG => ?_)
  simp only [List.cons_append, List.nil_append]
  refine T.seq ?_
  refine T.region ?_
  refine TL.cons rfl (V1.t (V1.assign' z_B) ?_)
  refine TL.nil ?_
  refine T.seq ?_
  refine T.drawTail 9 mixed z_F (by rfl) z_F rfl ?_
  refine Det.cons 0 (ins := [(0, _)]) (.old z_B z_F .nil) (fun e_ => .inl ⟨rfl, V1.t (V1.move' z_B) ⟨rfl, rfl⟩⟩) ?_
  refine Det.cons 1 (ins := [(3, _)]) (.new 0 0 z_F rfl rfl .nil) (fun e_ => .inl ⟨rfl, V1.t (V1.nilCheck rfl) ⟨rfl, rfl⟩⟩) ?_
  refine Det.cons 2 (ins := [(4, _)]) (.new 1 0 z_F rfl rfl .nil) (fun e_ => .inl ⟨rfl, V1.t (V1.load1 (v := .int .u64 (r).toNat) one_142 rfl (.own (cells := [.int .u64 (r).toNat]) z_D (by rfl))) ⟨rfl, rfl⟩⟩) ?_
  refine Det.cons 3 (ins := [(0, _)]) (.old z_B z_F .nil) (fun e_ => .inl ⟨rfl, V1.t (V1.move' z_B) ⟨rfl, rfl⟩⟩) ?_
  refine Det.cons 4 (ins := [(6, _)]) (.new 3 0 z_F rfl rfl .nil) (fun e_ => .inl ⟨rfl, V1.t (V1.nilCheck rfl) ⟨rfl, rfl⟩⟩) ?_
  refine Det.cons 5 (ins := [(7, _)]) (.new 4 0 z_F rfl rfl .nil) (fun e_ => .inl ⟨rfl, V1.t (V1.load1 (v := .int .u64 (r).toNat) one_142 rfl (.own (cells := [.int .u64 (r).toNat]) z_D (by rfl))) ⟨rfl, rfl⟩⟩) ?_
  refine Det.cons 6 (ins := [(8, _)]) (.new 5 0 z_F rfl rfl .nil) (fun e_ => .inl ⟨rfl, V1.t (V1.shlW (k := 13) u64U rfl rfl) ⟨rfl, rfl⟩⟩) ?_
  refine Det.cons 7 (ins := [(5, _), (9, _)]) (.new 2 4 z_F rfl rfl (.new 6 0 z_F rfl rfl .nil)) (fun e_ => .inl ⟨rfl, V1.t (V1.xorW u64U rfl rfl) ⟨rfl, rfl⟩⟩) ?_
  refine Det.cons 8 (ins := [(3, _)]) (.new 0 7 z_F rfl rfl .nil) (fun e_ => .inl ⟨rfl, V1.t (V1.nilCheck rfl) ⟨rfl, rfl⟩⟩) ?_
  refine Det.nil 9 (l := [(0, _), (10, _), (11, _)]) (.old z_B z_F (.new 7 1 z_F rfl rfl (.new 8 0 z_F rfl rfl .nil))) (fun e_ => ?_)
  refine (show TU _ _ _ 1 _ _ _ from ?_)
  refine TU.one 9 z_F rfl rfl (T1.store1 (v := .int .u64 (r ^^^ (r <<< 13)).toNat) rfl rfl sz_142 rfl z_H (Nat.zero_le _) z_J ?_)
  obtain ⟨y1, hy1⟩ : ∃ y_, y_ = r ^^^ (r <<< 13) := ⟨_, rfl⟩
  rw [← hy1]
  refine TU.done z_F ?_
  refine T.seq ?_
  refine T.drawTail 9 mixed z_F (by rfl) z_F rfl ?_
  refine Det.cons 0 (ins := [(0, _)]) (.old z_B z_F .nil) (fun e_ => .inl ⟨rfl, V1.t (V1.move' z_B) ⟨rfl, rfl⟩⟩) ?_
  refine Det.cons 1 (ins := [(12, _)]) (.new 0 0 z_F rfl rfl .nil) (fun e_ => .inl ⟨rfl, V1.t (V1.nilCheck rfl) ⟨rfl, rfl⟩⟩) ?_
  refine Det.cons 2 (ins := [(13, _)]) (.new 1 0 z_F rfl rfl .nil) (fun e_ => .inl ⟨rfl, V1.t (V1.load1 (v := .int .u64 (y1).toNat) one_142 rfl (.own (cells := [.int .u64 (y1).toNat]) z_D (by rfl))) ⟨rfl, rfl⟩⟩) ?_
  refine Det.cons 3 (ins := [(0, _)]) (.old z_B z_F .nil) (fun e_ => .inl ⟨rfl, V1.t (V1.move' z_B) ⟨rfl, rfl⟩⟩) ?_
  refine Det.cons 4 (ins := [(15, _)]) (.new 3 0 z_F rfl rfl .nil) (fun e_ => .inl ⟨rfl, V1.t (V1.nilCheck rfl) ⟨rfl, rfl⟩⟩) ?_
  refine Det.cons 5 (ins := [(16, _)]) (.new 4 0 z_F rfl rfl .nil) (fun e_ => .inl ⟨rfl, V1.t (V1.load1 (v := .int .u64 (y1).toNat) one_142 rfl (.own (cells := [.int .u64 (y1).toNat]) z_D (by rfl))) ⟨rfl, rfl⟩⟩) ?_
  refine Det.cons 6 (ins := [(17, _)]) (.new 5 0 z_F rfl rfl .nil) (fun e_ => .inl ⟨rfl, V1.t (V1.shrW (k := 7) u64U rfl rfl) ⟨rfl, rfl⟩⟩) ?_
  refine Det.cons 7 (ins := [(14, _), (18, _)]) (.new 2 4 z_F rfl rfl (.new 6 0 z_F rfl rfl .nil)) (fun e_ => .inl ⟨rfl, V1.t (V1.xorW u64U rfl rfl) ⟨rfl, rfl⟩⟩) ?_
  refine Det.cons 8 (ins := [(12, _)]) (.new 0 7 z_F rfl rfl .nil) (fun e_ => .inl ⟨rfl, V1.t (V1.nilCheck rfl) ⟨rfl, rfl⟩⟩) ?_
  refine Det.nil 9 (l := [(0, _), (19, _), (20, _)]) (.old z_B z_F (.new 7 1 z_F rfl rfl (.new 8 0 z_F rfl rfl .nil))) (fun e_ => ?_)
  refine (show TU _ _ _ 1 _ _ _ from ?_)
  refine TU.one 9 z_F rfl rfl (T1.store1 (v := .int .u64 (y1 ^^^ (y1 >>> 7)).toNat) rfl rfl sz_142 rfl z_H (Nat.zero_le _) z_J ?_)
  obtain ⟨y2, hy2⟩ : ∃ y_, y_ = y1 ^^^ (y1 >>> 7) := ⟨_, rfl⟩
  rw [← hy2]
  refine TU.done z_F ?_
  refine T.seq ?_
  refine T.drawTail 9 mixed z_F (by rfl) z_F rfl ?_
  refine Det.cons 0 (ins := [(0, _)]) (.old z_B z_F .nil) (fun e_ => .inl ⟨rfl, V1.t (V1.move' z_B) ⟨rfl, rfl⟩⟩) ?_
  refine Det.cons 1 (ins := [(21, _)]) (.new 0 0 z_F rfl rfl .nil) (fun e_ => .inl ⟨rfl, V1.t (V1.nilCheck rfl) ⟨rfl, rfl⟩⟩) ?_
  refine Det.cons 2 (ins := [(22, _)]) (.new 1 0 z_F rfl rfl .nil) (fun e_ => .inl ⟨rfl, V1.t (V1.load1 (v := .int .u64 (y2).toNat) one_142 rfl (.own (cells := [.int .u64 (y2).toNat]) z_D (by rfl))) ⟨rfl, rfl⟩⟩) ?_
  refine Det.cons 3 (ins := [(0, _)]) (.old z_B z_F .nil) (fun e_ => .inl ⟨rfl, V1.t (V1.move' z_B) ⟨rfl, rfl⟩⟩) ?_
  refine Det.cons 4 (ins := [(24, _)]) (.new 3 0 z_F rfl rfl .nil) (fun e_ => .inl ⟨rfl, V1.t (V1.nilCheck rfl) ⟨rfl, rfl⟩⟩) ?_
  refine Det.cons 5 (ins := [(25, _)]) (.new 4 0 z_F rfl rfl .nil) (fun e_ => .inl ⟨rfl, V1.t (V1.load1 (v := .int .u64 (y2).toNat) one_142 rfl (.own (cells := [.int .u64 (y2).toNat]) z_D (by rfl))) ⟨rfl, rfl⟩⟩) ?_
  refine Det.cons 6 (ins := [(26, _)]) (.new 5 0 z_F rfl rfl .nil) (fun e_ => .inl ⟨rfl, V1.t (V1.shlW (k := 17) u64U rfl rfl) ⟨rfl, rfl⟩⟩) ?_
  refine Det.cons 7 (ins := [(23, _), (27, _)]) (.new 2 4 z_F rfl rfl (.new 6 0 z_F rfl rfl .nil)) (fun e_ => .inl ⟨rfl, V1.t (V1.xorW u64U rfl rfl) ⟨rfl, rfl⟩⟩) ?_
  refine Det.cons 8 (ins := [(21, _)]) (.new 0 7 z_F rfl rfl .nil) (fun e_ => .inl ⟨rfl, V1.t (V1.nilCheck rfl) ⟨rfl, rfl⟩⟩) ?_
  refine Det.nil 9 (l := [(0, _), (28, _), (29, _)]) (.old z_B z_F (.new 7 1 z_F rfl rfl (.new 8 0 z_F rfl rfl .nil))) (fun e_ => ?_)
  refine (show TU _ _ _ 1 _ _ _ from ?_)
  refine TU.one 9 z_F rfl rfl (T1.store1 (v := .int .u64 (y2 ^^^ (y2 <<< 17)).toNat) rfl rfl sz_142 rfl z_H (Nat.zero_le _) z_J ?_)
  obtain ⟨y3, hy3⟩ : ∃ y_, y_ = y2 ^^^ (y2 <<< 17) := ⟨_, rfl⟩
  rw [← hy3]
  refine TU.done z_F ?_
  refine T.seq ?_
  refine T.region ?_
  refine TL.cons rfl (V1.t (V1.move' z_B) ?_)
  refine TL.cons rfl (V1.t (V1.nilCheck rfl) ?_)
  refine TL.cons rfl (V1.t (V1.load1 (v := .int .u64 (y3).toNat) one_142 rfl (.own (cells := [.int .u64 (y3).toNat]) z_D (by rfl))) ?_)
  refine TL.cons rfl (V1.t (V1.assign' z_B) ?_)
  refine TL.nil ?_
  refine T.ret ?_
  exact ⟨_, _ :: G, _, .cons (.tmp z_B) .nil, z_A, [_], rfl, _, rfl, rfl⟩

set_option maxRecDepth 100000 in
set_option maxHeartbeats 8000000 in
theorem brkG (w0 : World) (b off size cap n : Nat) (xs0 : List Nat) (hxl : xs0.length = n) (hn : n ≤ 1000000) (a e m q : Nat) (hae : a + m = e) (hm : 12 < m) (hm2 : m < 200) (hq : q = m / 4) (hen : e ≤ n) : FnG P 62 [.slice (some ⟨b, off, none⟩) n cap, .int .i64 ((a : Nat) : Int), .int .i64 ((e : Nat) : Int)] w0 [] [(⟨b, off, (xs0).map u32V, size⟩ : Blk)] (fun v Y => ∃ ys, Y = [(⟨b, off, (ys).map u32V, size⟩ : Blk)] ∧ Sw a e xs0 ys) := by
  refine FnG.of 65 [] Go.Proofs.Try.func62 rfl rfl rfl rfl (fun G hG => ?_)
  simp only [List.cons_append, List.nil_append]
  refine T.seq ?_
  refine T.region ?_
  refine TL.cons rfl (V1.t (V1.move' z_B) ?_)
  refine TL.cons rfl (V1.t (V1.move' z_B) ?_)
  refine TL.cons rfl (V1.t (V1.sub (c := ((m : Nat) : Int)) rfl rfl (by rw [wrap_i64 _ (by omega) (by omega)]; omega)) ?_)
  refine TL.cons rfl (V1.t (V1.assign' z_B) ?_)
  refine TL.nil ?_
  refine T.seq ?_
  refine T.region ?_
  refine TL.cons rfl (V1.t (V1.move' z_B) ?_)
  refine TL.cons rfl (V1.t (V1.geI (r := true) rfl rfl (decide_eq_true (by omega))) ?_)
  refine TL.nil ?_
  refine T.cond_t rfl ?_
  refine T.seq ?_
  refine T.region ?_
  refine TL.cons rfl (V1.t (V1.move' z_B) ?_)
  refine TL.cons rfl (V1.t (V1.conv (c := (((BitVec.ofNat 64 m).toNat : Nat) : Int)) ty_3 ty_142 rfl (by rw [BitVec.toNat_ofNat, Nat.mod_eq_of_lt (by omega)]; exact wrap_u64 _ (by omega) (by omega))) ?_)
  refine TL.cons rfl (T1.alloc1 zr_142 rfl (fun br => ?_))
  refine TL.cons rfl (T1.store1 rfl rfl sz_142 rfl z_H (Nat.zero_le _) z_J ?_)
  refine TL.nil ?_
  refine T.seq ?_
  refine T.region ?_
  refine TL.cons rfl (V1.t (V1.move' z_B) ?_)
  refine TL.cons rfl (T1.callV has_72 rfl rfl (npowG w0 m (by omega) (by omega)) z_E (fun v_ hv => ?_))
  subst hv
  obtain ⟨lg, hlg⟩ : ∃ k, k = Nat.log2 m + 1 := ⟨_, rfl⟩
  have hl1 : 2 ^ lg ≤ 2 * m := by rw [hlg]; exact log2_le (by omega)
  have hl2 : lg ≤ 8 := by have := (lenC m (by omega) (by omega)).2; omega
  rw [← hlg]
  refine TL.cons rfl (V1.t (V1.assign' z_B) ?_)
  refine TL.nil ?_
  refine T.seq ?_
  refine T.region ?_
  refine TL.cons rfl (V1.t (V1.move' z_B) ?_)
  refine TL.cons rfl (V1.t (V1.move' z_B) ?_)
  refine TL.cons rfl (V1.t (V1.quo (c := ((q : Nat) : Int)) rfl rfl (by decide) (by rw [show ((m : Nat) : Int).tdiv 4 = ((q : Nat) : Int) from by rw [hq]; rfl]; exact wrap_i64 _ (by omega) (by omega))) ?_)
  refine TL.cons rfl (V1.t (V1.mul (c := ((q * 2 : Nat) : Int)) rfl rfl (by rw [show ((q : Nat) : Int) * 2 = ((q * 2 : Nat) : Int) from by omega]; exact wrap_i64 _ (by omega) (by omega))) ?_)
  refine TL.cons rfl (V1.t (V1.add (c := ((a + q * 2 : Nat) : Int)) rfl rfl (by rw [wrap_i64 _ (by omega) (by omega)]; omega)) ?_)
  refine TL.cons rfl (V1.t (V1.sub (c := ((a + q * 2 - 1 : Nat) : Int)) rfl rfl (by rw [wrap_i64 _ (by omega) (by omega)]; omega)) ?_)
  refine TL.cons rfl (V1.t (V1.assign' z_B) ?_)
  refine TL.nil ?_
  refine T.block ?_
  refine T.loopL (σ := Nat × BitVec 64 × List Nat) (l0 := [(0, _), (1, _), (6, _), (7, _), (8, _)]) (fun x => [(9, .int .i64 ((x.1 : Nat) : Int))]) (fun x L => L = (⟨b, off, (x.2.2).map u32V, size⟩ : Blk) :: (⟨br, 0, [.int .u64 (x.2.1).toNat], 1⟩ : Blk) :: G ∧ a + q * 2 - 1 ≤ x.1 ∧ x.1 ≤ a + q * 2 + 2 ∧ Sw a e xs0 x.2.2) (fun x => a + q * 2 + 2 - x.1) (a + q * 2 - 1, BitVec.ofNat 64 m, xs0) (.cons rfl .nil) (.cons z_B (.cons z_B (.cons z_B (.cons z_B (.cons z_B .nil))))) z_A (⟨rfl, Nat.le_refl _, by simp only; omega, Sw.refl⟩) ?_
  rintro ⟨ix, r, xs⟩ e_ L ⟨rfl, hi1, hi2, hsw⟩
  dsimp only at hi1 hi2 hsw
  dsimp only
  have hxn := hsw.len
  refine T.seq ?_
  refine T.seq ?_
  refine T.region ?_
  refine TL.cons rfl (V1.t (V1.move' z_B) ?_)
  refine TL.cons rfl (V1.t (V1.move' z_B) ?_)
  refine TL.cons rfl (V1.t (V1.move' z_B) ?_)
  refine TL.cons rfl (V1.t (V1.quo (c := ((q : Nat) : Int)) rfl rfl (by decide) (by rw [show ((m : Nat) : Int).tdiv 4 = ((q : Nat) : Int) from by rw [hq]; rfl]; exact wrap_i64 _ (by omega) (by omega))) ?_)
  refine TL.cons rfl (V1.t (V1.mul (c := ((q * 2 : Nat) : Int)) rfl rfl (by rw [show ((q : Nat) : Int) * 2 = ((q * 2 : Nat) : Int) from by omega]; exact wrap_i64 _ (by omega) (by omega))) ?_)
  refine TL.cons rfl (V1.t (V1.add (c := ((a + q * 2 : Nat) : Int)) rfl rfl (by rw [wrap_i64 _ (by omega) (by omega)]; omega)) ?_)
  refine TL.cons rfl (V1.t (V1.add (c := ((a + q * 2 + 1 : Nat) : Int)) rfl rfl (by rw [wrap_i64 _ (by omega) (by omega)]; omega)) ?_)
  refine TL.cons rfl (T1.leI_split rfl rfl (fun h5 => ?_) (fun h5 => ?_))
  ·
    refine TL.nil ?_
    refine T.cond_t rfl ?_
    refine T.skip ?_
    refine T.seq ?_
    refine T.block ?_
    refine T.seq ?_
    refine T.region ?_
    refine TL.cons rfl (T1.callM (X := [(⟨br, 0, [.int .u64 (r).toNat], 1⟩ : Blk)]) has_73 rfl rfl (xsNextG w0 br r) z_A z_E (fun v_ Y_ hv => ?_))
    obtain ⟨r2, rfl, rfl⟩ := hv
    simp only [List.cons_append, List.nil_append]
    have ham := and_mask r2 hl2
    obtain ⟨z0, hz0⟩ : ∃ z0, z0 = (r2 &&& ((1#64 <<< lg) - 1#64)).toNat := ⟨_, rfl⟩
    rw [← hz0] at ham
    refine TL.cons rfl (V1.t (V1.move' z_B) ?_)
    refine TL.cons rfl (V1.t (V1.subW (b := 1#64) u64U rfl rfl) ?_)
    refine TL.cons rfl (V1.t (V1.andW u64U rfl rfl) ?_)
    rw [← hz0]
    refine TL.cons rfl (V1.t (V1.conv (c := ((z0 : Nat) : Int)) ty_110 ty_3 rfl (wrap_i64 _ (by omega) (by omega))) ?_)
    refine TL.cons rfl (V1.t (V1.assign' z_B) ?_)
    refine TL.nil ?_
    refine T.cut (σ := Nat) (l0 := [(0, _), (1, _), (6, _), (7, _), (8, _), (9, _)]) (fun x => [(10, .int .i64 ((x : Nat) : Int))]) (fun z L => L = (⟨b, off, (xs).map u32V, size⟩ : Blk) :: (⟨br, 0, [.int .u64 (r2).toNat], 1⟩ : Blk) :: G ∧ z < m) (.cons z_B (.cons z_B (.cons z_B (.cons z_B (.cons z_B (.cons z_B .nil)))))) ?_ ?_
    ·
      refine T.seq ?_
      refine T.region ?_
      refine TL.cons rfl (V1.t (V1.move' z_B) ?_)
      refine TL.cons rfl (V1.t (V1.move' z_B) ?_)
      refine TL.cons rfl (T1.geI_split rfl rfl (fun h8 => ?_) (fun h8 => ?_))
      ·
        refine TL.nil ?_
        refine T.cond_t rfl ?_
        refine T.live (l := [(0, _), (1, _), (6, _), (7, _), (8, _), (9, _), (10, _)]) (.cons z_B (.cons z_B (.cons z_B (.cons z_B (.cons z_B (.cons z_B (.cons z_B .nil))))))) (fun e_ => ?_)
        refine T.region ?_
        refine TL.cons rfl (V1.t (V1.move' z_B) ?_)
        refine TL.cons rfl (V1.t (V1.move' z_B) ?_)
        refine TL.cons rfl (V1.t (V1.sub (c := ((z0 - m : Nat) : Int)) rfl rfl (by rw [wrap_i64 _ (by omega) (by omega)]; omega)) ?_)
        refine TL.cons rfl (V1.t (V1.assign' z_B) ?_)
        refine TL.nil ?_
        exact ⟨z0 - m, (⟨b, off, (xs).map u32V, size⟩ : Blk) :: (⟨br, 0, [.int .u64 (r2).toNat], 1⟩ : Blk) :: G, _, trivial, (.cons rfl .nil), (.cons rfl (.cons rfl (.cons rfl (.cons rfl (.cons rfl (.cons rfl .nil)))))), z_A, ⟨rfl, by omega⟩⟩
      ·
        refine TL.nil ?_
        refine T.cond_f rfl ?_
        refine T.skip ?_
        exact ⟨z0, (⟨b, off, (xs).map u32V, size⟩ : Blk) :: (⟨br, 0, [.int .u64 (r2).toNat], 1⟩ : Blk) :: G, _, trivial, (.cons rfl .nil), (.cons rfl (.cons rfl (.cons rfl (.cons rfl (.cons rfl (.cons rfl .nil)))))), z_A, ⟨rfl, by omega⟩⟩
    ·
      rintro z e_ L ⟨rfl, hzm⟩
      refine T.drawZ (fun L_ => Find L_ (⟨b, off, (xs).map u32V, size⟩ : Blk)) 17 mixed z_D ?_
      refine TZ.pure 0 rfl z_F z_F z_F z_F rfl (fun _ _ _ h => h) (fun _ => V1.move' z_B) ?_
      refine TZ.pure 1 rfl z_F z_F z_F z_F rfl (fun _ _ _ h => h) (fun _ => V1.move' z_B) ?_
      refine TZ.pure 2 rfl z_F z_F z_F z_F rfl (fun _ _ _ h => h) (fun _ => V1.move' z_B) ?_
      refine TZ.pure 3 rfl z_F z_F z_F z_F rfl (fun _ _ _ h => h) (fun _ => V1.move' z_B) ?_
      refine TZ.pure 4 rfl z_F z_F z_F z_F rfl (fun _ _ _ h => h) (fun _ => V1.move' z_B) ?_
      refine TZ.pure 5 rfl z_F z_F z_F z_F rfl (fun _ _ _ h => h) (fun _ => V1.add (c := ((a + z : Nat) : Int)) rfl rfl (by rw [wrap_i64 _ (by omega) (by omega)]; omega)) ?_
      refine TZ.pure 6 rfl z_F z_F z_F z_F rfl (fun _ _ _ h => h) (fun _ => V1.move' z_B) ?_
      refine TZ.pure 7 rfl z_F z_F z_F z_F rfl (fun _ _ _ h => h) (fun _ => V1.move' z_B) ?_
      refine TZ.pure 8 rfl z_F z_F z_F z_F rfl (fun _ _ _ h => h) (fun _ => V1.move' z_B) ?_
      refine TZ.pure 9 rfl z_F z_F z_F z_F rfl (fun _ _ _ h => h) (fun _ => V1.add (c := ((a + z : Nat) : Int)) rfl rfl (by rw [wrap_i64 _ (by omega) (by omega)]; omega)) ?_
      refine TZ.pure 10 rfl z_F z_F z_F z_F rfl (fun _ _ _ h => h) (fun _ => V1.indexAddrS ty_36 sz_27 rfl rfl (by omega) (by omega)) ?_
      refine TZ.pure 12 rfl z_F z_F z_F z_F rfl (fun _ _ _ h => h) (fun _ => V1.move' z_B) ?_
      refine TZ.pure 13 rfl z_F z_F z_F z_F rfl (fun _ _ _ h => h) (fun _ => V1.move' z_B) ?_
      refine TZ.pure 14 rfl z_F z_F z_F z_F rfl (fun _ _ _ h => h) (fun _ => V1.indexAddrS ty_36 sz_27 rfl rfl (by omega) (by omega)) ?_
      refine TZ.read 11 rfl z_F z_F z_F z_F rfl (fun _ _ _ h => h) (fun L_ k1_ => V1.load1 (v := u32V (g xs (a + z))) one_27 rfl (ib_rd (cs := (xs).map u32V) (k := a + z) z_D (gV (by omega)))) ?_
      refine TZ.read 15 rfl z_F z_F z_F z_F rfl (fun _ _ _ h => h) (fun L_ k1_ => V1.load1 (v := u32V (g xs (ix))) one_27 rfl (ib_rd (cs := (xs).map u32V) (k := ix) z_D (gV (by omega)))) ?_
      refine TZ.pure 16 rfl z_F z_F z_F z_F rfl (fun _ _ _ h => h) (fun _ => V1.indexAddrS ty_36 sz_27 rfl rfl (by omega) (by omega)) ?_
      refine TZ.one 17 z_F rfl z_F rfl (T1.storeE (o := off + (ix) * 1) (off := off) (size := size) (cells := (xs).map u32V) (cells' := ((xs).set (ix) (g xs (a + z))).map u32V) (v := u32V (g xs (a + z))) rfl rfl sz_27 rfl (by rw [show off + (ix) * 1 - off = ix by omega]; exact List.map_set.symm) z_H (by omega) (by simp only [List.length_map, List.length_set]; omega) ?_)
      refine TZ.pure 18 rfl z_F z_F z_F z_F rfl (fun _ _ _ h => h) (fun _ => V1.indexAddrS ty_36 sz_27 rfl rfl (by omega) (by omega)) ?_
      refine TZ.one 19 z_F rfl z_F rfl (T1.storeE (o := off + (a + z) * 1) (off := off) (size := size) (cells := ((xs).set (ix) (g xs (a + z))).map u32V) (cells' := (((xs).set (ix) (g xs (a + z))).set (a + z) (g xs (ix))).map u32V) (v := u32V (g xs (ix))) rfl rfl sz_27 rfl (by rw [show off + (a + z) * 1 - off = a + z by omega]; exact List.map_set.symm) z_H (by omega) (by simp only [List.length_map, List.length_set]; omega) ?_)
      refine TZ.done z_F ?_
      refine T.live (l := [(0, _), (1, _), (6, _), (7, _), (8, _), (9, _)]) (.cons z_B (.cons z_B (.cons z_B (.cons z_B (.cons z_B (.cons z_B .nil)))))) (fun e_ => ?_)
      refine T.region ?_
      refine TL.cons rfl (V1.t (V1.move' z_B) ?_)
      refine TL.cons rfl (V1.t (V1.add (c := ((ix + 1 : Nat) : Int)) rfl rfl (by rw [wrap_i64 _ (by omega) (by omega)]; omega)) ?_)
      refine TL.cons rfl (V1.t (V1.assign' z_B) ?_)
      refine TL.nil ?_
      exact ⟨(ix + 1, r2, swp xs ix (a + z)), (⟨b, off, (swp xs ix (a + z)).map u32V, size⟩ : Blk) :: (⟨br, 0, [.int .u64 (r2).toNat], 1⟩ : Blk) :: G, _, (by simp only; omega), (.cons rfl .nil), (.cons rfl (.cons rfl (.cons rfl (.cons rfl (.cons rfl .nil))))), z_A, ⟨rfl, by simp only; omega, by simp only; omega, hsw.trans (Sw.swap (by omega) (by omega) (by omega) (by omega) (by omega))⟩⟩
  ·
    refine TL.nil ?_
    refine T.cond_f rfl ?_
    refine T.exit ?_
    -- the end
    exact ⟨_, _ :: G, _, .nil, z_A, [_], rfl, xs, rfl, hsw⟩

theorem Insd.swapped {a i : Nat} {xs : List Nat} (h : Asc a i xs) (hi : a < i) (hl : i < xs.length) : Insd a (i - 1) (i - 1) (swp xs i (i - 1)) := by
  intro p q h1 h2 h3 h4
  rw [swp_g hl (by omega), swp_g hl (by omega), if_neg (by omega), if_neg (by omega), if_neg (by omega), if_neg (by omega)]
  exact h p q h1 h2 (by omega)
theorem lb_lt {a e j : Nat} {xs : List Nat} (h : Lb a e xs) (haj : a ≤ j) (hje : j < e) (h0 : 1 ≤ j) (hl : g xs j < g xs (j - 1)) : a < j := by
  rcases Nat.lt_or_eq_of_le haj with h1 | h1
  · exact h1
  · exfalso
    subst h1
    rcases h with h2 | h2
    · omega
    · have := h2 a (Nat.le_refl _) hje
      omega
theorem Asc.swapped {a i j k : Nat} {xs : List Nat} (h : Asc a i xs) (hj : j < xs.length) (hk : k < xs.length) (h1 : i ≤ j) (h2 : i ≤ k) : Asc a i (swp xs j k) := h.same fun c _ hc => by rw [swp_g hj hk, if_neg (by omega), if_neg (by omega)]
set_option maxRecDepth 100000 in
set_option maxHeartbeats 8000000 in
theorem pisG (w0 : World) (b off size cap n : Nat) (xs0 : List Nat) (hxl : xs0.length = n) (hn : n ≤ 1000000) (a e : Nat) (hae : a < e) (hen : e ≤ n) (hlb : Lb a e xs0) : FnG P 65 [.slice (some ⟨b, off, none⟩) n cap, .int .i64 ((a : Nat) : Int), .int .i64 ((e : Nat) : Int)] w0 [] [(⟨b, off, (xs0).map u32V, size⟩ : Blk)] (fun v Y => ∃ (ys : List Nat) (q : Bool), Y = [(⟨b, off, (ys).map u32V, size⟩ : Blk)] ∧ v = .bool q ∧ Sw a e xs0 ys ∧ (q = true → Asc a e ys)) := by
  refine FnG.of 133 [.tmp 6] Go.Proofs.Try.func65 rfl rfl rfl rfl (fun G hG => ?_)
  simp only [List.cons_append, List.nil_append]
  refine T.seq ?_
  refine T.region ?_
  refine TL.cons rfl (V1.t (V1.assign' z_B) ?_)
  refine TL.nil ?_
  refine T.seq ?_
  refine T.region ?_
  refine TL.cons rfl (V1.t (V1.move' z_B) ?_)
  refine TL.cons rfl (V1.t (V1.add (c := ((a + 1 : Nat) : Int)) rfl rfl (by rw [wrap_i64 _ (by omega) (by omega)]; omega)) ?_)
  refine TL.cons rfl (V1.t (V1.assign' z_B) ?_)
  refine TL.nil ?_
  refine T.seq ?_
  refine T.seq ?_
  refine T.region ?_
  refine TL.cons rfl (V1.t (V1.assign' z_B) ?_)
  refine TL.nil ?_
  refine T.block ?_
  refine T.loopL (σ := Nat × Nat × List Nat) (l0 := [(0, _), (1, _), (2, _)]) (fun x => [(7, .int .i64 ((x.2.1 : Nat) : Int)), (8, .int .i64 ((x.1 : Nat) : Int))]) (fun x L => L = (⟨b, off, (x.2.2).map u32V, size⟩ : Blk) :: G ∧ x.1 ≤ 5 ∧ a < x.2.1 ∧ x.2.1 ≤ e ∧ Sw a e xs0 x.2.2 ∧ Asc a x.2.1 x.2.2) (fun x => 5 - x.1) (0, a + 1, xs0) (.cons rfl (.cons rfl .nil)) (.cons z_B (.cons z_B (.cons z_B .nil))) z_A (⟨rfl, Nat.zero_le _, Nat.lt_succ_self _, by simp only; omega, Sw.refl, fun p q h1 h2 h3 => by simp only at h3; omega⟩) ?_
  rintro ⟨st, i0, xs⟩ e_ L ⟨rfl, hst, hi1, hi2, hsw, has⟩
  dsimp only at hst hi1 hi2 hsw has
  dsimp only
  have hxn := hsw.len
  refine T.seq ?_
  refine T.seq ?_
  refine T.region ?_
  refine TL.cons rfl (V1.t (V1.move' z_B) ?_)
  refine TL.cons rfl (T1.ltI_split rfl rfl (fun h3 => ?_) (fun h3 => ?_))
  ·
    refine TL.nil ?_
    refine T.cond_t rfl ?_
    refine T.skip ?_
    refine T.cut (σ := Nat × List Nat) (l0 := [(0, _), (1, _), (2, _), (8, _)]) (fun x => [(7, .int .i64 ((x.1 : Nat) : Int))]) (fun x L => L = (⟨b, off, (x.2).map u32V, size⟩ : Blk) :: G ∧ (a < x.1 ∧ x.1 ≤ e) ∧ Sw a e xs0 x.2 ∧ Asc a x.1 x.2) (.cons z_B (.cons z_B (.cons z_B (.cons z_B .nil)))) ?_ ?_
    ·
      refine T.block ?_
      refine T.cut (σ := Nat) (l0 := [(0, _), (1, _), (2, _), (8, _)]) (fun x => [(7, .int .i64 ((x : Nat) : Int))]) (fun i L => L = (⟨b, off, (xs).map u32V, size⟩ : Blk) :: G ∧ a < i ∧ i ≤ e ∧ Asc a i xs) (.cons z_B (.cons z_B (.cons z_B (.cons z_B .nil)))) ?_ ?_
      ·
        refine T.block ?_
        refine T.loopL (σ := Nat) (l0 := [(0, _), (1, _), (2, _), (8, _)]) (fun x => [(7, .int .i64 ((x : Nat) : Int))]) (fun i L => L = (⟨b, off, (xs).map u32V, size⟩ : Blk) :: G ∧ a < i ∧ i ≤ e ∧ Asc a i xs) (fun i => e - i) i0 (.cons rfl .nil) (.cons z_B (.cons z_B (.cons z_B (.cons z_B .nil)))) z_A (⟨rfl, hi1, hi2, has⟩) ?_
        rintro i e_ L ⟨rfl, hi3, hi4, has2⟩
        refine T.seq ?_
        refine T.seq ?_
        rcases Nat.lt_or_ge i e with hij | hij
        rcases Nat.lt_or_ge (g xs i) (g xs (i - 1)) with hl | hl
        ·
          refine T.drawDet' mixed z_F ?_
          refine Det.cons 0 (ins := [(7, _)]) (.old z_B z_F .nil) (fun e_ => .inl ⟨rfl, V1.t (V1.move' z_B) ⟨rfl, rfl⟩⟩) ?_
          refine Det.cons 1 (ins := [(2, _)]) (.old z_B z_F .nil) (fun e_ => .inl ⟨rfl, V1.t (V1.move' z_B) ⟨rfl, rfl⟩⟩) ?_
          refine Det.cons 2 (ins := [(17, _), (18, _)]) (.new 0 1 z_F rfl rfl (.new 1 0 z_F rfl rfl .nil)) (fun e_ => .inl ⟨rfl, V1.t (V1.ltI (r := true) rfl rfl (decide_eq_true (by omega))) ⟨rfl, rfl⟩⟩) ?_
          refine Det.cons 3 (ins := [(19, _)]) (.new 2 0 z_F rfl rfl .nil) (fun e_ => .inl ⟨rfl, V1.t (V1.move' z_B) ⟨rfl, rfl⟩⟩) ?_
          refine Det.cons 4 (ins := [(0, _), (20, _)]) (.old z_B z_F (.new 3 0 z_F rfl rfl .nil)) (fun e_ => .inl ⟨rfl, V1.t (V1.move' z_B) ⟨rfl, rfl⟩⟩) ?_
          refine Det.cons 5 (ins := [(7, _), (20, _)]) (.old z_B z_F (.new 3 1 z_F rfl rfl .nil)) (fun e_ => .inl ⟨rfl, V1.t (V1.move' z_B) ⟨rfl, rfl⟩⟩) ?_
          refine Det.cons 6 (ins := [(20, _), (21, _), (22, _)]) (.new 3 2 z_F rfl rfl (.new 4 1 z_F rfl rfl (.new 5 0 z_F rfl rfl .nil))) (fun e_ => .inl ⟨rfl, V1.t (V1.indexAddrS ty_36 sz_27 rfl rfl (by omega) (by omega)) ⟨rfl, rfl⟩⟩) ?_
          refine Det.cons 7 (ins := [(20, _), (23, _)]) (.new 3 3 z_F rfl rfl (.new 6 0 z_F rfl rfl .nil)) (fun e_ => .inl ⟨rfl, V1.t (V1.load1 (v := u32V (g xs (i))) one_27 rfl (ib_rd (cs := (xs).map u32V) (k := i) z_D (gV (by omega)))) ⟨rfl, rfl⟩⟩) ?_
          refine Det.cons 8 (ins := [(0, _), (20, _)]) (.old z_B z_F (.new 3 4 z_F rfl rfl .nil)) (fun e_ => .inl ⟨rfl, V1.t (V1.move' z_B) ⟨rfl, rfl⟩⟩) ?_
          refine Det.cons 9 (ins := [(7, _), (20, _)]) (.old z_B z_F (.new 3 5 z_F rfl rfl .nil)) (fun e_ => .inl ⟨rfl, V1.t (V1.move' z_B) ⟨rfl, rfl⟩⟩) ?_
          refine Det.cons 10 (ins := [(20, _), (26, _)]) (.new 3 6 z_F rfl rfl (.new 9 0 z_F rfl rfl .nil)) (fun e_ => .inl ⟨rfl, V1.t (V1.sub (c := ((i - 1 : Nat) : Int)) rfl rfl (by rw [wrap_i64 _ (by omega) (by omega)]; omega)) ⟨rfl, rfl⟩⟩) ?_
          refine Det.cons 11 (ins := [(20, _), (25, _), (27, _)]) (.new 3 7 z_F rfl rfl (.new 8 2 z_F rfl rfl (.new 10 0 z_F rfl rfl .nil))) (fun e_ => .inl ⟨rfl, V1.t (V1.indexAddrS ty_36 sz_27 rfl rfl (by omega) (by omega)) ⟨rfl, rfl⟩⟩) ?_
          refine Det.cons 12 (ins := [(20, _), (28, _)]) (.new 3 8 z_F rfl rfl (.new 11 0 z_F rfl rfl .nil)) (fun e_ => .inl ⟨rfl, V1.t (V1.load1 (v := u32V (g xs (i - 1))) one_27 rfl (ib_rd (cs := (xs).map u32V) (k := i - 1) z_D (gV (by omega)))) ⟨rfl, rfl⟩⟩) ?_
          refine Det.cons 13 (ins := [(20, _), (24, _), (29, _)]) (v := .bool true) (.new 3 9 z_F rfl rfl (.new 7 5 z_F rfl rfl (.new 12 0 z_F rfl rfl .nil))) (fun e_ => .inl ⟨rfl, ?_⟩) ?_
          · refine T1.call0 has_66 rfl (fun w hs => LessI_any (g xs (i) : Int) (g xs (i - 1) : Int) w) (fun v_ hv => ?_)
            obtain rfl := hv
            rw [decide_eq_true (by omega)]
            exact ⟨rfl, rfl⟩
          refine Det.cons 14 (ins := [(20, _), (30, _)]) (.new 3 10 z_F rfl rfl (.new 13 0 z_F rfl rfl .nil)) (fun e_ => .inl ⟨rfl, V1.t (V1.not rfl rfl) ⟨rfl, rfl⟩⟩) ?_
          refine Det.cons 15 (ins := [(20, _), (31, _)]) (.new 3 11 z_F rfl rfl (.new 14 0 z_F rfl rfl .nil)) (fun e_ => .inl ⟨rfl, V1.t (V1.pick rfl z_B) ⟨rfl, rfl⟩⟩) ?_
          refine Det.nil 16 (l := [(0, _), (1, _), (2, _), (7, _), (8, _), (32, _)]) (.old z_B z_F (.old z_B z_F (.old z_B z_F (.old z_B z_F (.old z_B z_F (.new 15 0 z_F rfl rfl .nil)))))) (fun e_ => ?_)
          refine T.cond_f rfl ?_
          refine T.exit ?_
          exact ⟨i, _, _, trivial, (.cons rfl .nil), (.cons rfl (.cons rfl (.cons rfl (.cons rfl .nil)))), z_A, ⟨rfl, hi3, hi4, has2⟩⟩
        ·
          refine T.drawDet' mixed z_F ?_
          refine Det.cons 0 (ins := [(7, _)]) (.old z_B z_F .nil) (fun e_ => .inl ⟨rfl, V1.t (V1.move' z_B) ⟨rfl, rfl⟩⟩) ?_
          refine Det.cons 1 (ins := [(2, _)]) (.old z_B z_F .nil) (fun e_ => .inl ⟨rfl, V1.t (V1.move' z_B) ⟨rfl, rfl⟩⟩) ?_
          refine Det.cons 2 (ins := [(17, _), (18, _)]) (.new 0 1 z_F rfl rfl (.new 1 0 z_F rfl rfl .nil)) (fun e_ => .inl ⟨rfl, V1.t (V1.ltI (r := true) rfl rfl (decide_eq_true (by omega))) ⟨rfl, rfl⟩⟩) ?_
          refine Det.cons 3 (ins := [(19, _)]) (.new 2 0 z_F rfl rfl .nil) (fun e_ => .inl ⟨rfl, V1.t (V1.move' z_B) ⟨rfl, rfl⟩⟩) ?_
          refine Det.cons 4 (ins := [(0, _), (20, _)]) (.old z_B z_F (.new 3 0 z_F rfl rfl .nil)) (fun e_ => .inl ⟨rfl, V1.t (V1.move' z_B) ⟨rfl, rfl⟩⟩) ?_
          refine Det.cons 5 (ins := [(7, _), (20, _)]) (.old z_B z_F (.new 3 1 z_F rfl rfl .nil)) (fun e_ => .inl ⟨rfl, V1.t (V1.move' z_B) ⟨rfl, rfl⟩⟩) ?_
          refine Det.cons 6 (ins := [(20, _), (21, _), (22, _)]) (.new 3 2 z_F rfl rfl (.new 4 1 z_F rfl rfl (.new 5 0 z_F rfl rfl .nil))) (fun e_ => .inl ⟨rfl, V1.t (V1.indexAddrS ty_36 sz_27 rfl rfl (by omega) (by omega)) ⟨rfl, rfl⟩⟩) ?_
          refine Det.cons 7 (ins := [(20, _), (23, _)]) (.new 3 3 z_F rfl rfl (.new 6 0 z_F rfl rfl .nil)) (fun e_ => .inl ⟨rfl, V1.t (V1.load1 (v := u32V (g xs (i))) one_27 rfl (ib_rd (cs := (xs).map u32V) (k := i) z_D (gV (by omega)))) ⟨rfl, rfl⟩⟩) ?_
          refine Det.cons 8 (ins := [(0, _), (20, _)]) (.old z_B z_F (.new 3 4 z_F rfl rfl .nil)) (fun e_ => .inl ⟨rfl, V1.t (V1.move' z_B) ⟨rfl, rfl⟩⟩) ?_
          refine Det.cons 9 (ins := [(7, _), (20, _)]) (.old z_B z_F (.new 3 5 z_F rfl rfl .nil)) (fun e_ => .inl ⟨rfl, V1.t (V1.move' z_B) ⟨rfl, rfl⟩⟩) ?_
          refine Det.cons 10 (ins := [(20, _), (26, _)]) (.new 3 6 z_F rfl rfl (.new 9 0 z_F rfl rfl .nil)) (fun e_ => .inl ⟨rfl, V1.t (V1.sub (c := ((i - 1 : Nat) : Int)) rfl rfl (by rw [wrap_i64 _ (by omega) (by omega)]; omega)) ⟨rfl, rfl⟩⟩) ?_
          refine Det.cons 11 (ins := [(20, _), (25, _), (27, _)]) (.new 3 7 z_F rfl rfl (.new 8 2 z_F rfl rfl (.new 10 0 z_F rfl rfl .nil))) (fun e_ => .inl ⟨rfl, V1.t (V1.indexAddrS ty_36 sz_27 rfl rfl (by omega) (by omega)) ⟨rfl, rfl⟩⟩) ?_
          refine Det.cons 12 (ins := [(20, _), (28, _)]) (.new 3 8 z_F rfl rfl (.new 11 0 z_F rfl rfl .nil)) (fun e_ => .inl ⟨rfl, V1.t (V1.load1 (v := u32V (g xs (i - 1))) one_27 rfl (ib_rd (cs := (xs).map u32V) (k := i - 1) z_D (gV (by omega)))) ⟨rfl, rfl⟩⟩) ?_
          refine Det.cons 13 (ins := [(20, _), (24, _), (29, _)]) (v := .bool false) (.new 3 9 z_F rfl rfl (.new 7 5 z_F rfl rfl (.new 12 0 z_F rfl rfl .nil))) (fun e_ => .inl ⟨rfl, ?_⟩) ?_
          · refine T1.call0 has_66 rfl (fun w hs => LessI_any (g xs (i) : Int) (g xs (i - 1) : Int) w) (fun v_ hv => ?_)
            obtain rfl := hv
            rw [decide_eq_false (by omega)]
            exact ⟨rfl, rfl⟩
          refine Det.cons 14 (ins := [(20, _), (30, _)]) (.new 3 10 z_F rfl rfl (.new 13 0 z_F rfl rfl .nil)) (fun e_ => .inl ⟨rfl, V1.t (V1.not rfl rfl) ⟨rfl, rfl⟩⟩) ?_
          refine Det.cons 15 (ins := [(20, _), (31, _)]) (.new 3 11 z_F rfl rfl (.new 14 0 z_F rfl rfl .nil)) (fun e_ => .inl ⟨rfl, V1.t (V1.pick rfl z_B) ⟨rfl, rfl⟩⟩) ?_
          refine Det.nil 16 (l := [(0, _), (1, _), (2, _), (7, _), (8, _), (32, _)]) (.old z_B z_F (.old z_B z_F (.old z_B z_F (.old z_B z_F (.old z_B z_F (.new 15 0 z_F rfl rfl .nil)))))) (fun e_ => ?_)
          refine T.cond_t rfl ?_
          refine T.skip ?_
          refine T.block ?_
          refine T.region ?_
          refine TL.cons rfl (V1.t (V1.move' z_B) ?_)
          refine TL.cons rfl (V1.t (V1.add (c := ((i + 1 : Nat) : Int)) rfl rfl (by rw [wrap_i64 _ (by omega) (by omega)]; omega)) ?_)
          refine TL.cons rfl (V1.t (V1.assign' z_B) ?_)
          refine TL.nil ?_
          exact ⟨i + 1, _, _, (by simp only; omega), (.cons rfl .nil), (.cons rfl (.cons rfl (.cons rfl (.cons rfl .nil)))), z_A, ⟨rfl, by omega, by omega, (Insd.start has2).done (.inr hl) (by omega)⟩⟩
        ·
          refine T.drawDet' mixed z_F ?_
          refine Det.cons 0 (ins := [(7, _)]) (.old z_B z_F .nil) (fun e_ => .inl ⟨rfl, V1.t (V1.move' z_B) ⟨rfl, rfl⟩⟩) ?_
          refine Det.cons 1 (ins := [(2, _)]) (.old z_B z_F .nil) (fun e_ => .inl ⟨rfl, V1.t (V1.move' z_B) ⟨rfl, rfl⟩⟩) ?_
          refine Det.cons 2 (ins := [(17, _), (18, _)]) (.new 0 1 z_F rfl rfl (.new 1 0 z_F rfl rfl .nil)) (fun e_ => .inl ⟨rfl, V1.t (V1.ltI (r := false) rfl rfl (decide_eq_false (by omega))) ⟨rfl, rfl⟩⟩) ?_
          refine Det.cons 3 (ins := [(19, _)]) (.new 2 0 z_F rfl rfl .nil) (fun e_ => .inl ⟨rfl, V1.t (V1.move' z_B) ⟨rfl, rfl⟩⟩) ?_
          refine Det.cons 4 (ins := [(20, _)]) (.new 3 0 z_F rfl rfl .nil) (fun e_ => .inr ⟨rfl, rfl⟩) ?_
          refine Det.cons 5 (ins := [(20, _)]) (.new 3 1 z_F rfl rfl .nil) (fun e_ => .inr ⟨rfl, rfl⟩) ?_
          refine Det.cons 6 (ins := [(20, _)]) (.new 3 2 z_F rfl rfl .nil) (fun e_ => .inr ⟨rfl, rfl⟩) ?_
          refine Det.cons 7 (ins := [(20, _)]) (.new 3 3 z_F rfl rfl .nil) (fun e_ => .inr ⟨rfl, rfl⟩) ?_
          refine Det.cons 8 (ins := [(20, _)]) (.new 3 4 z_F rfl rfl .nil) (fun e_ => .inr ⟨rfl, rfl⟩) ?_
          refine Det.cons 9 (ins := [(20, _)]) (.new 3 5 z_F rfl rfl .nil) (fun e_ => .inr ⟨rfl, rfl⟩) ?_
          refine Det.cons 10 (ins := [(20, _)]) (.new 3 6 z_F rfl rfl .nil) (fun e_ => .inr ⟨rfl, rfl⟩) ?_
          refine Det.cons 11 (ins := [(20, _)]) (.new 3 7 z_F rfl rfl .nil) (fun e_ => .inr ⟨rfl, rfl⟩) ?_
          refine Det.cons 12 (ins := [(20, _)]) (.new 3 8 z_F rfl rfl .nil) (fun e_ => .inr ⟨rfl, rfl⟩) ?_
          refine Det.cons 13 (ins := [(20, _)]) (.new 3 9 z_F rfl rfl .nil) (fun e_ => .inr ⟨rfl, rfl⟩) ?_
          refine Det.cons 14 (ins := [(20, _)]) (.new 3 10 z_F rfl rfl .nil) (fun e_ => .inr ⟨rfl, rfl⟩) ?_
          refine Det.cons 15 (ins := [(20, _), (31, _)]) (.new 3 11 z_F rfl rfl (.new 14 0 z_F rfl rfl .nil)) (fun e_ => .inl ⟨rfl, V1.t (V1.pick rfl z_B) ⟨rfl, rfl⟩⟩) ?_
          refine Det.nil 16 (l := [(0, _), (1, _), (2, _), (7, _), (8, _), (32, _)]) (.old z_B z_F (.old z_B z_F (.old z_B z_F (.old z_B z_F (.old z_B z_F (.new 15 0 z_F rfl rfl .nil)))))) (fun e_ => ?_)
          refine T.cond_f rfl ?_
          refine T.exit ?_
          exact ⟨i, _, _, trivial, (.cons rfl .nil), (.cons rfl (.cons rfl (.cons rfl (.cons rfl .nil)))), z_A, ⟨rfl, hi3, hi4, has2⟩⟩
      ·
        rintro i e_ L ⟨rfl, hi3, hi4, has2⟩
        refine T.seq ?_
        refine T.seq ?_
        refine T.region ?_
        refine TL.cons rfl (V1.t (V1.move' z_B) ?_)
        refine TL.cons rfl (V1.t (V1.move' z_B) ?_)
        refine TL.cons rfl (T1.eqI_split rfl rfl (fun h7 => ?_) (fun h7 => ?_))
        ·
          obtain rfl : i = e := by omega
          refine TL.nil ?_
          refine T.cond_t rfl ?_
          refine T.seq ?_
          refine T.region ?_
          refine TL.cons rfl (V1.t (V1.assign' z_B) ?_)
          refine TL.nil ?_
          refine T.ret ?_
          exact ⟨_, _ :: G, _, .cons (.tmp z_B) .nil, z_A, [_], rfl, xs, true, rfl, rfl, hsw, fun h => has2⟩
        ·
          refine TL.nil ?_
          refine T.cond_f rfl ?_
          refine T.skip ?_
          refine T.seq ?_
          refine T.seq ?_
          refine T.region ?_
          refine TL.cons rfl (V1.t (V1.move' z_B) ?_)
          refine TL.cons rfl (V1.t (V1.move' z_B) ?_)
          refine TL.cons rfl (V1.t (V1.sub (c := ((e - a : Nat) : Int)) rfl rfl (by rw [wrap_i64 _ (by omega) (by omega)]; omega)) ?_)
          refine TL.cons rfl (T1.ltI_split rfl rfl (fun h9 => ?_) (fun h9 => ?_))
          ·
            refine TL.nil ?_
            refine T.cond_t rfl ?_
            refine T.seq ?_
            refine T.region ?_
            refine TL.cons rfl (V1.t (V1.assign' z_B) ?_)
            refine TL.nil ?_
            refine T.ret ?_
            exact ⟨_, _ :: G, _, .cons (.tmp z_B) .nil, z_A, [_], rfl, xs, false, rfl, rfl, hsw, fun h => (by cases h)⟩
          ·
            refine TL.nil ?_
            refine T.cond_f rfl ?_
            refine T.skip ?_
            refine T.seq ?_
            refine T.drawZ (fun L_ => Find L_ (⟨b, off, (xs).map u32V, size⟩ : Blk)) 15 mixed z_D ?_
            refine TZ.pure 0 rfl z_F z_F z_F z_F rfl (fun _ _ _ h => h) (fun _ => V1.move' z_B) ?_
            refine TZ.pure 1 rfl z_F z_F z_F z_F rfl (fun _ _ _ h => h) (fun _ => V1.move' z_B) ?_
            refine TZ.pure 2 rfl z_F z_F z_F z_F rfl (fun _ _ _ h => h) (fun _ => V1.move' z_B) ?_
            refine TZ.pure 3 rfl z_F z_F z_F z_F rfl (fun _ _ _ h => h) (fun _ => V1.move' z_B) ?_
            refine TZ.pure 4 rfl z_F z_F z_F z_F rfl (fun _ _ _ h => h) (fun _ => V1.sub (c := ((i - 1 : Nat) : Int)) rfl rfl (by rw [wrap_i64 _ (by omega) (by omega)]; omega)) ?_
            refine TZ.pure 5 rfl z_F z_F z_F z_F rfl (fun _ _ _ h => h) (fun _ => V1.move' z_B) ?_
            refine TZ.pure 6 rfl z_F z_F z_F z_F rfl (fun _ _ _ h => h) (fun _ => V1.move' z_B) ?_
            refine TZ.pure 7 rfl z_F z_F z_F z_F rfl (fun _ _ _ h => h) (fun _ => V1.sub (c := ((i - 1 : Nat) : Int)) rfl rfl (by rw [wrap_i64 _ (by omega) (by omega)]; omega)) ?_
            refine TZ.pure 8 rfl z_F z_F z_F z_F rfl (fun _ _ _ h => h) (fun _ => V1.indexAddrS ty_36 sz_27 rfl rfl (by omega) (by omega)) ?_
            refine TZ.pure 10 rfl z_F z_F z_F z_F rfl (fun _ _ _ h => h) (fun _ => V1.move' z_B) ?_
            refine TZ.pure 11 rfl z_F z_F z_F z_F rfl (fun _ _ _ h => h) (fun _ => V1.move' z_B) ?_
            refine TZ.pure 12 rfl z_F z_F z_F z_F rfl (fun _ _ _ h => h) (fun _ => V1.indexAddrS ty_36 sz_27 rfl rfl (by omega) (by omega)) ?_
            refine TZ.read 9 rfl z_F z_F z_F z_F rfl (fun _ _ _ h => h) (fun L_ k1_ => V1.load1 (v := u32V (g xs (i - 1))) one_27 rfl (ib_rd (cs := (xs).map u32V) (k := i - 1) z_D (gV (by omega)))) ?_
            refine TZ.read 13 rfl z_F z_F z_F z_F rfl (fun _ _ _ h => h) (fun L_ k1_ => V1.load1 (v := u32V (g xs (i))) one_27 rfl (ib_rd (cs := (xs).map u32V) (k := i) z_D (gV (by omega)))) ?_
            refine TZ.pure 14 rfl z_F z_F z_F z_F rfl (fun _ _ _ h => h) (fun _ => V1.indexAddrS ty_36 sz_27 rfl rfl (by omega) (by omega)) ?_
            refine TZ.one 15 z_F rfl z_F rfl (T1.storeE (o := off + (i) * 1) (off := off) (size := size) (cells := (xs).map u32V) (cells' := ((xs).set (i) (g xs (i - 1))).map u32V) (v := u32V (g xs (i - 1))) rfl rfl sz_27 rfl (by rw [show off + (i) * 1 - off = i by omega]; exact List.map_set.symm) z_H (by omega) (by simp only [List.length_map, List.length_set]; omega) ?_)
            refine TZ.pure 16 rfl z_F z_F z_F z_F rfl (fun _ _ _ h => h) (fun _ => V1.indexAddrS ty_36 sz_27 rfl rfl (by omega) (by omega)) ?_
            refine TZ.one 17 z_F rfl z_F rfl (T1.storeE (o := off + (i - 1) * 1) (off := off) (size := size) (cells := ((xs).set (i) (g xs (i - 1))).map u32V) (cells' := (((xs).set (i) (g xs (i - 1))).set (i - 1) (g xs (i))).map u32V) (v := u32V (g xs (i))) rfl rfl sz_27 rfl (by rw [show off + (i - 1) * 1 - off = i - 1 by omega]; exact List.map_set.symm) z_H (by omega) (by simp only [List.length_map, List.length_set]; omega) ?_)
            refine TZ.done z_F ?_
            refine T.cut (σ := List Nat) (l0 := [(0, _), (1, _), (2, _), (7, _), (8, _)]) (fun x => []) (fun ys L => L = (⟨b, off, (ys).map u32V, size⟩ : Blk) :: G ∧ Sw a e xs0 ys ∧ Asc a i ys) (.cons z_B (.cons z_B (.cons z_B (.cons z_B (.cons z_B .nil))))) ?_ ?_
            ·
              refine T.seq ?_
              refine T.live (l := [(0, _), (1, _), (2, _), (7, _), (8, _)]) (.cons z_B (.cons z_B (.cons z_B (.cons z_B (.cons z_B .nil))))) (fun e_ => ?_)
              refine T.region ?_
              refine TL.cons rfl (V1.t (V1.move' z_B) ?_)
              refine TL.cons rfl (V1.t (V1.move' z_B) ?_)
              refine TL.cons rfl (V1.t (V1.sub (c := ((i - a : Nat) : Int)) rfl rfl (by rw [wrap_i64 _ (by omega) (by omega)]; omega)) ?_)
              refine TL.cons rfl (T1.geI_split rfl rfl (fun h12 => ?_) (fun h12 => ?_))
              ·
                refine TL.nil ?_
                refine T.cond_t rfl ?_
                refine T.seq ?_
                refine T.region ?_
                refine TL.cons rfl (V1.t (V1.move' z_B) ?_)
                refine TL.cons rfl (V1.t (V1.sub (c := ((i - 1 : Nat) : Int)) rfl rfl (by rw [wrap_i64 _ (by omega) (by omega)]; omega)) ?_)
                refine TL.cons rfl (V1.t (V1.assign' z_B) ?_)
                refine TL.nil ?_
                refine T.block ?_
                refine T.loopL (σ := Nat × List Nat) (l0 := [(0, _), (1, _), (2, _), (7, _), (8, _)]) (fun x => [(9, .int .i64 ((x.1 : Nat) : Int))]) (fun x L => L = (⟨b, off, (x.2).map u32V, size⟩ : Blk) :: G ∧ a ≤ x.1 ∧ x.1 ≤ i - 1 ∧ Sw a e xs0 x.2 ∧ Insd a (i - 1) x.1 x.2) (fun x => x.1) (i - 1, swp xs i (i - 1)) (.cons rfl .nil) (.cons z_B (.cons z_B (.cons z_B (.cons z_B (.cons z_B .nil))))) z_A (⟨rfl, by simp only; omega, Nat.le_refl _, hsw.trans (Sw.swap (by omega) (by omega) (by omega) (by omega) (by omega)), Insd.swapped has2 (by omega) (by omega)⟩) ?_
                rintro ⟨j, ys⟩ e_ L ⟨rfl, hj1, hj2, hsw3, hins⟩
                dsimp only at hj1 hj2 hsw3 hins
                dsimp only
                have hyn := hsw3.len
                have hlb3 := hlb.sw hsw3
                refine T.seq ?_
                refine T.seq ?_
                refine T.region ?_
                refine TL.cons rfl (V1.t (V1.move' z_B) ?_)
                refine TL.cons rfl (T1.geI_split rfl rfl (fun h14 => ?_) (fun h14 => ?_))
                ·
                  refine TL.nil ?_
                  refine T.cond_t rfl ?_
                  refine T.skip ?_
                  refine T.seq ?_
                  refine T.block ?_
                  refine T.seq ?_
                  refine T.seq ?_
                  rcases Nat.lt_or_ge (g ys j) (g ys (j - 1)) with hl | hl
                  ·
                    have hja : a < j := lb_lt hlb3 hj1 (by omega) (by omega) hl
                    refine T.drawDet' mixed z_F ?_
                    refine Det.cons 0 (ins := [(0, _)]) (.old z_B z_F .nil) (fun e_ => .inl ⟨rfl, V1.t (V1.move' z_B) ⟨rfl, rfl⟩⟩) ?_
                    refine Det.cons 1 (ins := [(9, _)]) (.old z_B z_F .nil) (fun e_ => .inl ⟨rfl, V1.t (V1.move' z_B) ⟨rfl, rfl⟩⟩) ?_
                    refine Det.cons 2 (ins := [(68, _), (69, _)]) (.new 0 1 z_F rfl rfl (.new 1 0 z_F rfl rfl .nil)) (fun e_ => .inl ⟨rfl, V1.t (V1.indexAddrS ty_36 sz_27 rfl rfl (by omega) (by omega)) ⟨rfl, rfl⟩⟩) ?_
                    refine Det.cons 3 (ins := [(70, _)]) (.new 2 0 z_F rfl rfl .nil) (fun e_ => .inl ⟨rfl, V1.t (V1.load1 (v := u32V (g ys (j))) one_27 rfl (ib_rd (cs := (ys).map u32V) (k := j) z_D (gV (by omega)))) ⟨rfl, rfl⟩⟩) ?_
                    refine Det.cons 4 (ins := [(0, _)]) (.old z_B z_F .nil) (fun e_ => .inl ⟨rfl, V1.t (V1.move' z_B) ⟨rfl, rfl⟩⟩) ?_
                    refine Det.cons 5 (ins := [(9, _)]) (.old z_B z_F .nil) (fun e_ => .inl ⟨rfl, V1.t (V1.move' z_B) ⟨rfl, rfl⟩⟩) ?_
                    refine Det.cons 6 (ins := [(73, _)]) (.new 5 0 z_F rfl rfl .nil) (fun e_ => .inl ⟨rfl, V1.t (V1.sub (c := ((j - 1 : Nat) : Int)) rfl rfl (by rw [wrap_i64 _ (by omega) (by omega)]; omega)) ⟨rfl, rfl⟩⟩) ?_
                    refine Det.cons 7 (ins := [(72, _), (74, _)]) (.new 4 2 z_F rfl rfl (.new 6 0 z_F rfl rfl .nil)) (fun e_ => .inl ⟨rfl, V1.t (V1.indexAddrS ty_36 sz_27 rfl rfl (by omega) (by omega)) ⟨rfl, rfl⟩⟩) ?_
                    refine Det.cons 8 (ins := [(75, _)]) (.new 7 0 z_F rfl rfl .nil) (fun e_ => .inl ⟨rfl, V1.t (V1.load1 (v := u32V (g ys (j - 1))) one_27 rfl (ib_rd (cs := (ys).map u32V) (k := j - 1) z_D (gV (by omega)))) ⟨rfl, rfl⟩⟩) ?_
                    refine Det.cons 9 (ins := [(71, _), (76, _)]) (v := .bool true) (.new 3 5 z_F rfl rfl (.new 8 0 z_F rfl rfl .nil)) (fun e_ => .inl ⟨rfl, ?_⟩) ?_
                    · refine T1.call0 has_66 rfl (fun w hs => LessI_any (g ys (j) : Int) (g ys (j - 1) : Int) w) (fun v_ hv => ?_)
                      obtain rfl := hv
                      rw [decide_eq_true (by omega)]
                      exact ⟨rfl, rfl⟩
                    refine Det.cons 10 (ins := [(77, _)]) (.new 9 0 z_F rfl rfl .nil) (fun e_ => .inl ⟨rfl, V1.t (V1.not rfl rfl) ⟨rfl, rfl⟩⟩) ?_
                    refine Det.nil 11 (l := [(0, _), (1, _), (2, _), (7, _), (8, _), (9, _), (78, _)]) (.old z_B z_F (.old z_B z_F (.old z_B z_F (.old z_B z_F (.old z_B z_F (.old z_B z_F (.new 10 0 z_F rfl rfl .nil))))))) (fun e_ => ?_)
                    refine T.cond_f rfl ?_
                    refine T.skip ?_
                    refine T.drawZ (fun L_ => Find L_ (⟨b, off, (ys).map u32V, size⟩ : Blk)) 15 mixed z_D ?_
                    refine TZ.pure 0 rfl z_F z_F z_F z_F rfl (fun _ _ _ h => h) (fun _ => V1.move' z_B) ?_
                    refine TZ.pure 1 rfl z_F z_F z_F z_F rfl (fun _ _ _ h => h) (fun _ => V1.move' z_B) ?_
                    refine TZ.pure 2 rfl z_F z_F z_F z_F rfl (fun _ _ _ h => h) (fun _ => V1.move' z_B) ?_
                    refine TZ.pure 3 rfl z_F z_F z_F z_F rfl (fun _ _ _ h => h) (fun _ => V1.move' z_B) ?_
                    refine TZ.pure 4 rfl z_F z_F z_F z_F rfl (fun _ _ _ h => h) (fun _ => V1.sub (c := ((j - 1 : Nat) : Int)) rfl rfl (by rw [wrap_i64 _ (by omega) (by omega)]; omega)) ?_
                    refine TZ.pure 5 rfl z_F z_F z_F z_F rfl (fun _ _ _ h => h) (fun _ => V1.move' z_B) ?_
                    refine TZ.pure 6 rfl z_F z_F z_F z_F rfl (fun _ _ _ h => h) (fun _ => V1.move' z_B) ?_
                    refine TZ.pure 7 rfl z_F z_F z_F z_F rfl (fun _ _ _ h => h) (fun _ => V1.sub (c := ((j - 1 : Nat) : Int)) rfl rfl (by rw [wrap_i64 _ (by omega) (by omega)]; omega)) ?_
                    refine TZ.pure 8 rfl z_F z_F z_F z_F rfl (fun _ _ _ h => h) (fun _ => V1.indexAddrS ty_36 sz_27 rfl rfl (by omega) (by omega)) ?_
                    refine TZ.pure 10 rfl z_F z_F z_F z_F rfl (fun _ _ _ h => h) (fun _ => V1.move' z_B) ?_
                    refine TZ.pure 11 rfl z_F z_F z_F z_F rfl (fun _ _ _ h => h) (fun _ => V1.move' z_B) ?_
                    refine TZ.pure 12 rfl z_F z_F z_F z_F rfl (fun _ _ _ h => h) (fun _ => V1.indexAddrS ty_36 sz_27 rfl rfl (by omega) (by omega)) ?_
                    refine TZ.read 9 rfl z_F z_F z_F z_F rfl (fun _ _ _ h => h) (fun L_ k1_ => V1.load1 (v := u32V (g ys (j - 1))) one_27 rfl (ib_rd (cs := (ys).map u32V) (k := j - 1) z_D (gV (by omega)))) ?_
                    refine TZ.read 13 rfl z_F z_F z_F z_F rfl (fun _ _ _ h => h) (fun L_ k1_ => V1.load1 (v := u32V (g ys (j))) one_27 rfl (ib_rd (cs := (ys).map u32V) (k := j) z_D (gV (by omega)))) ?_
                    refine TZ.pure 14 rfl z_F z_F z_F z_F rfl (fun _ _ _ h => h) (fun _ => V1.indexAddrS ty_36 sz_27 rfl rfl (by omega) (by omega)) ?_
                    refine TZ.one 15 z_F rfl z_F rfl (T1.storeE (o := off + (j) * 1) (off := off) (size := size) (cells := (ys).map u32V) (cells' := ((ys).set (j) (g ys (j - 1))).map u32V) (v := u32V (g ys (j - 1))) rfl rfl sz_27 rfl (by rw [show off + (j) * 1 - off = j by omega]; exact List.map_set.symm) z_H (by omega) (by simp only [List.length_map, List.length_set]; omega) ?_)
                    refine TZ.pure 16 rfl z_F z_F z_F z_F rfl (fun _ _ _ h => h) (fun _ => V1.indexAddrS ty_36 sz_27 rfl rfl (by omega) (by omega)) ?_
                    refine TZ.one 17 z_F rfl z_F rfl (T1.storeE (o := off + (j - 1) * 1) (off := off) (size := size) (cells := ((ys).set (j) (g ys (j - 1))).map u32V) (cells' := (((ys).set (j) (g ys (j - 1))).set (j - 1) (g ys (j))).map u32V) (v := u32V (g ys (j))) rfl rfl sz_27 rfl (by rw [show off + (j - 1) * 1 - off = j - 1 by omega]; exact List.map_set.symm) z_H (by omega) (by simp only [List.length_map, List.length_set]; omega) ?_)
                    refine TZ.done z_F ?_
                    refine T.live (l := [(0, _), (1, _), (2, _), (7, _), (8, _), (9, _)]) (.cons z_B (.cons z_B (.cons z_B (.cons z_B (.cons z_B (.cons z_B .nil)))))) (fun e_ => ?_)
                    refine T.region ?_
                    refine TL.cons rfl (V1.t (V1.move' z_B) ?_)
                    refine TL.cons rfl (V1.t (V1.sub (c := ((j - 1 : Nat) : Int)) rfl rfl (by rw [wrap_i64 _ (by omega) (by omega)]; omega)) ?_)
                    refine TL.cons rfl (V1.t (V1.assign' z_B) ?_)
                    refine TL.nil ?_
                    exact ⟨(j - 1, swp ys j (j - 1)), (⟨b, off, (swp ys j (j - 1)).map u32V, size⟩ : Blk) :: G, _, (by simp only; omega), (.cons rfl .nil), (.cons rfl (.cons rfl (.cons rfl (.cons rfl (.cons rfl .nil))))), z_A, ⟨rfl, by simp only; omega, by simp only; omega, hsw3.trans (Sw.swap (by omega) (by omega) (by omega) (by omega) (by omega)), hins.step hja hj2 (by omega) hl⟩⟩
                  ·
                    have hdone := hins.done (.inr hl) hj1
                    refine T.drawDet' mixed z_F ?_
                    refine Det.cons 0 (ins := [(0, _)]) (.old z_B z_F .nil) (fun e_ => .inl ⟨rfl, V1.t (V1.move' z_B) ⟨rfl, rfl⟩⟩) ?_
                    refine Det.cons 1 (ins := [(9, _)]) (.old z_B z_F .nil) (fun e_ => .inl ⟨rfl, V1.t (V1.move' z_B) ⟨rfl, rfl⟩⟩) ?_
                    refine Det.cons 2 (ins := [(68, _), (69, _)]) (.new 0 1 z_F rfl rfl (.new 1 0 z_F rfl rfl .nil)) (fun e_ => .inl ⟨rfl, V1.t (V1.indexAddrS ty_36 sz_27 rfl rfl (by omega) (by omega)) ⟨rfl, rfl⟩⟩) ?_
                    refine Det.cons 3 (ins := [(70, _)]) (.new 2 0 z_F rfl rfl .nil) (fun e_ => .inl ⟨rfl, V1.t (V1.load1 (v := u32V (g ys (j))) one_27 rfl (ib_rd (cs := (ys).map u32V) (k := j) z_D (gV (by omega)))) ⟨rfl, rfl⟩⟩) ?_
                    refine Det.cons 4 (ins := [(0, _)]) (.old z_B z_F .nil) (fun e_ => .inl ⟨rfl, V1.t (V1.move' z_B) ⟨rfl, rfl⟩⟩) ?_
                    refine Det.cons 5 (ins := [(9, _)]) (.old z_B z_F .nil) (fun e_ => .inl ⟨rfl, V1.t (V1.move' z_B) ⟨rfl, rfl⟩⟩) ?_
                    refine Det.cons 6 (ins := [(73, _)]) (.new 5 0 z_F rfl rfl .nil) (fun e_ => .inl ⟨rfl, V1.t (V1.sub (c := ((j - 1 : Nat) : Int)) rfl rfl (by rw [wrap_i64 _ (by omega) (by omega)]; omega)) ⟨rfl, rfl⟩⟩) ?_
                    refine Det.cons 7 (ins := [(72, _), (74, _)]) (.new 4 2 z_F rfl rfl (.new 6 0 z_F rfl rfl .nil)) (fun e_ => .inl ⟨rfl, V1.t (V1.indexAddrS ty_36 sz_27 rfl rfl (by omega) (by omega)) ⟨rfl, rfl⟩⟩) ?_
                    refine Det.cons 8 (ins := [(75, _)]) (.new 7 0 z_F rfl rfl .nil) (fun e_ => .inl ⟨rfl, V1.t (V1.load1 (v := u32V (g ys (j - 1))) one_27 rfl (ib_rd (cs := (ys).map u32V) (k := j - 1) z_D (gV (by omega)))) ⟨rfl, rfl⟩⟩) ?_
                    refine Det.cons 9 (ins := [(71, _), (76, _)]) (v := .bool false) (.new 3 5 z_F rfl rfl (.new 8 0 z_F rfl rfl .nil)) (fun e_ => .inl ⟨rfl, ?_⟩) ?_
                    · refine T1.call0 has_66 rfl (fun w hs => LessI_any (g ys (j) : Int) (g ys (j - 1) : Int) w) (fun v_ hv => ?_)
                      obtain rfl := hv
                      rw [decide_eq_false (by omega)]
                      exact ⟨rfl, rfl⟩
                    refine Det.cons 10 (ins := [(77, _)]) (.new 9 0 z_F rfl rfl .nil) (fun e_ => .inl ⟨rfl, V1.t (V1.not rfl rfl) ⟨rfl, rfl⟩⟩) ?_
                    refine Det.nil 11 (l := [(0, _), (1, _), (2, _), (7, _), (8, _), (9, _), (78, _)]) (.old z_B z_F (.old z_B z_F (.old z_B z_F (.old z_B z_F (.old z_B z_F (.old z_B z_F (.new 10 0 z_F rfl rfl .nil))))))) (fun e_ => ?_)
                    refine T.cond_t rfl ?_
                    refine T.exit ?_
                    exact ⟨ys, (⟨b, off, (ys).map u32V, size⟩ : Blk) :: G, _, trivial, .nil, (.cons rfl (.cons rfl (.cons rfl (.cons rfl (.cons rfl .nil))))), z_A, ⟨rfl, hsw3, by rw [show i - 1 + 1 = i by omega] at hdone; exact hdone⟩⟩
                ·
                  have hdone := hins.done (.inl (by omega)) hj1
                  refine TL.nil ?_
                  refine T.cond_f rfl ?_
                  refine T.exit ?_
                  exact ⟨ys, (⟨b, off, (ys).map u32V, size⟩ : Blk) :: G, _, trivial, .nil, (.cons rfl (.cons rfl (.cons rfl (.cons rfl (.cons rfl .nil))))), z_A, ⟨rfl, hsw3, by rw [show i - 1 + 1 = i by omega] at hdone; exact hdone⟩⟩
              ·
                refine TL.nil ?_
                refine T.cond_f rfl ?_
                refine T.skip ?_
                exact ⟨swp xs i (i - 1), (⟨b, off, (swp xs i (i - 1)).map u32V, size⟩ : Blk) :: G, _, trivial, .nil, (.cons rfl (.cons rfl (.cons rfl (.cons rfl (.cons rfl .nil))))), z_A, ⟨rfl, hsw.trans (Sw.swap (by omega) (by omega) (by omega) (by omega) (by omega)), fun p q h1 h2 h3 => by omega⟩⟩
            ·
              rintro zs e_ L ⟨rfl, hsw4, has4⟩
              have hzn := hsw4.len
              refine T.seq ?_
              refine T.live (l := [(0, _), (1, _), (2, _), (7, _), (8, _)]) (.cons z_B (.cons z_B (.cons z_B (.cons z_B (.cons z_B .nil))))) (fun e_ => ?_)
              refine T.region ?_
              refine TL.cons rfl (V1.t (V1.move' z_B) ?_)
              refine TL.cons rfl (V1.t (V1.move' z_B) ?_)
              refine TL.cons rfl (V1.t (V1.sub (c := ((e - i : Nat) : Int)) rfl rfl (by rw [wrap_i64 _ (by omega) (by omega)]; omega)) ?_)
              refine TL.cons rfl (T1.geI_split rfl rfl (fun h18 => ?_) (fun h18 => ?_))
              ·
                refine TL.nil ?_
                refine T.cond_t rfl ?_
                refine T.seq ?_
                refine T.region ?_
                refine TL.cons rfl (V1.t (V1.move' z_B) ?_)
                refine TL.cons rfl (V1.t (V1.add (c := ((i + 1 : Nat) : Int)) rfl rfl (by rw [wrap_i64 _ (by omega) (by omega)]; omega)) ?_)
                refine TL.cons rfl (V1.t (V1.assign' z_B) ?_)
                refine TL.nil ?_
                refine T.block ?_
                refine T.loopL (σ := Nat × List Nat) (l0 := [(0, _), (1, _), (2, _), (7, _), (8, _)]) (fun x => [(10, .int .i64 ((x.1 : Nat) : Int))]) (fun x L => L = (⟨b, off, (x.2).map u32V, size⟩ : Blk) :: G ∧ i < x.1 ∧ x.1 ≤ e ∧ Sw a e xs0 x.2 ∧ Asc a i x.2) (fun x => e - x.1) (i + 1, zs) (.cons rfl .nil) (.cons z_B (.cons z_B (.cons z_B (.cons z_B (.cons z_B .nil))))) z_A (⟨rfl, Nat.lt_succ_self _, by simp only; omega, hsw4, has4⟩) ?_
                rintro ⟨j, us⟩ e_ L ⟨rfl, hj1, hj2, hsw5, has5⟩
                dsimp only at hj1 hj2 hsw5 has5
                dsimp only
                have hun := hsw5.len
                refine T.seq ?_
                refine T.seq ?_
                refine T.region ?_
                refine TL.cons rfl (V1.t (V1.move' z_B) ?_)
                refine TL.cons rfl (V1.t (V1.move' z_B) ?_)
                refine TL.cons rfl (T1.ltI_split rfl rfl (fun h20 => ?_) (fun h20 => ?_))
                ·
                  refine TL.nil ?_
                  refine T.cond_t rfl ?_
                  refine T.skip ?_
                  refine T.seq ?_
                  refine T.block ?_
                  refine T.seq ?_
                  refine T.seq ?_
                  rcases Nat.lt_or_ge (g us j) (g us (j - 1)) with hl | hl
                  ·
                    refine T.drawDet' mixed z_F ?_
                    refine Det.cons 0 (ins := [(0, _)]) (.old z_B z_F .nil) (fun e_ => .inl ⟨rfl, V1.t (V1.move' z_B) ⟨rfl, rfl⟩⟩) ?_
                    refine Det.cons 1 (ins := [(10, _)]) (.old z_B z_F .nil) (fun e_ => .inl ⟨rfl, V1.t (V1.move' z_B) ⟨rfl, rfl⟩⟩) ?_
                    refine Det.cons 2 (ins := [(106, _), (107, _)]) (.new 0 1 z_F rfl rfl (.new 1 0 z_F rfl rfl .nil)) (fun e_ => .inl ⟨rfl, V1.t (V1.indexAddrS ty_36 sz_27 rfl rfl (by omega) (by omega)) ⟨rfl, rfl⟩⟩) ?_
                    refine Det.cons 3 (ins := [(108, _)]) (.new 2 0 z_F rfl rfl .nil) (fun e_ => .inl ⟨rfl, V1.t (V1.load1 (v := u32V (g us (j))) one_27 rfl (ib_rd (cs := (us).map u32V) (k := j) z_D (gV (by omega)))) ⟨rfl, rfl⟩⟩) ?_
                    refine Det.cons 4 (ins := [(0, _)]) (.old z_B z_F .nil) (fun e_ => .inl ⟨rfl, V1.t (V1.move' z_B) ⟨rfl, rfl⟩⟩) ?_
                    refine Det.cons 5 (ins := [(10, _)]) (.old z_B z_F .nil) (fun e_ => .inl ⟨rfl, V1.t (V1.move' z_B) ⟨rfl, rfl⟩⟩) ?_
                    refine Det.cons 6 (ins := [(111, _)]) (.new 5 0 z_F rfl rfl .nil) (fun e_ => .inl ⟨rfl, V1.t (V1.sub (c := ((j - 1 : Nat) : Int)) rfl rfl (by rw [wrap_i64 _ (by omega) (by omega)]; omega)) ⟨rfl, rfl⟩⟩) ?_
                    refine Det.cons 7 (ins := [(110, _), (112, _)]) (.new 4 2 z_F rfl rfl (.new 6 0 z_F rfl rfl .nil)) (fun e_ => .inl ⟨rfl, V1.t (V1.indexAddrS ty_36 sz_27 rfl rfl (by omega) (by omega)) ⟨rfl, rfl⟩⟩) ?_
                    refine Det.cons 8 (ins := [(113, _)]) (.new 7 0 z_F rfl rfl .nil) (fun e_ => .inl ⟨rfl, V1.t (V1.load1 (v := u32V (g us (j - 1))) one_27 rfl (ib_rd (cs := (us).map u32V) (k := j - 1) z_D (gV (by omega)))) ⟨rfl, rfl⟩⟩) ?_
                    refine Det.cons 9 (ins := [(109, _), (114, _)]) (v := .bool true) (.new 3 5 z_F rfl rfl (.new 8 0 z_F rfl rfl .nil)) (fun e_ => .inl ⟨rfl, ?_⟩) ?_
                    · refine T1.call0 has_66 rfl (fun w hs => LessI_any (g us (j) : Int) (g us (j - 1) : Int) w) (fun v_ hv => ?_)
                      obtain rfl := hv
                      rw [decide_eq_true (by omega)]
                      exact ⟨rfl, rfl⟩
                    refine Det.cons 10 (ins := [(115, _)]) (.new 9 0 z_F rfl rfl .nil) (fun e_ => .inl ⟨rfl, V1.t (V1.not rfl rfl) ⟨rfl, rfl⟩⟩) ?_
                    refine Det.nil 11 (l := [(0, _), (1, _), (2, _), (7, _), (8, _), (10, _), (116, _)]) (.old z_B z_F (.old z_B z_F (.old z_B z_F (.old z_B z_F (.old z_B z_F (.old z_B z_F (.new 10 0 z_F rfl rfl .nil))))))) (fun e_ => ?_)
                    refine T.cond_f rfl ?_
                    refine T.skip ?_
                    refine T.drawZ (fun L_ => Find L_ (⟨b, off, (us).map u32V, size⟩ : Blk)) 15 mixed z_D ?_
                    refine TZ.pure 0 rfl z_F z_F z_F z_F rfl (fun _ _ _ h => h) (fun _ => V1.move' z_B) ?_
                    refine TZ.pure 1 rfl z_F z_F z_F z_F rfl (fun _ _ _ h => h) (fun _ => V1.move' z_B) ?_
                    refine TZ.pure 2 rfl z_F z_F z_F z_F rfl (fun _ _ _ h => h) (fun _ => V1.move' z_B) ?_
                    refine TZ.pure 3 rfl z_F z_F z_F z_F rfl (fun _ _ _ h => h) (fun _ => V1.move' z_B) ?_
                    refine TZ.pure 4 rfl z_F z_F z_F z_F rfl (fun _ _ _ h => h) (fun _ => V1.sub (c := ((j - 1 : Nat) : Int)) rfl rfl (by rw [wrap_i64 _ (by omega) (by omega)]; omega)) ?_
                    refine TZ.pure 5 rfl z_F z_F z_F z_F rfl (fun _ _ _ h => h) (fun _ => V1.move' z_B) ?_
                    refine TZ.pure 6 rfl z_F z_F z_F z_F rfl (fun _ _ _ h => h) (fun _ => V1.move' z_B) ?_
                    refine TZ.pure 7 rfl z_F z_F z_F z_F rfl (fun _ _ _ h => h) (fun _ => V1.sub (c := ((j - 1 : Nat) : Int)) rfl rfl (by rw [wrap_i64 _ (by omega) (by omega)]; omega)) ?_
                    refine TZ.pure 8 rfl z_F z_F z_F z_F rfl (fun _ _ _ h => h) (fun _ => V1.indexAddrS ty_36 sz_27 rfl rfl (by omega) (by omega)) ?_
                    refine TZ.pure 10 rfl z_F z_F z_F z_F rfl (fun _ _ _ h => h) (fun _ => V1.move' z_B) ?_
                    refine TZ.pure 11 rfl z_F z_F z_F z_F rfl (fun _ _ _ h => h) (fun _ => V1.move' z_B) ?_
                    refine TZ.pure 12 rfl z_F z_F z_F z_F rfl (fun _ _ _ h => h) (fun _ => V1.indexAddrS ty_36 sz_27 rfl rfl (by omega) (by omega)) ?_
                    refine TZ.read 9 rfl z_F z_F z_F z_F rfl (fun _ _ _ h => h) (fun L_ k1_ => V1.load1 (v := u32V (g us (j - 1))) one_27 rfl (ib_rd (cs := (us).map u32V) (k := j - 1) z_D (gV (by omega)))) ?_
                    refine TZ.read 13 rfl z_F z_F z_F z_F rfl (fun _ _ _ h => h) (fun L_ k1_ => V1.load1 (v := u32V (g us (j))) one_27 rfl (ib_rd (cs := (us).map u32V) (k := j) z_D (gV (by omega)))) ?_
                    refine TZ.pure 14 rfl z_F z_F z_F z_F rfl (fun _ _ _ h => h) (fun _ => V1.indexAddrS ty_36 sz_27 rfl rfl (by omega) (by omega)) ?_
                    refine TZ.one 15 z_F rfl z_F rfl (T1.storeE (o := off + (j) * 1) (off := off) (size := size) (cells := (us).map u32V) (cells' := ((us).set (j) (g us (j - 1))).map u32V) (v := u32V (g us (j - 1))) rfl rfl sz_27 rfl (by rw [show off + (j) * 1 - off = j by omega]; exact List.map_set.symm) z_H (by omega) (by simp only [List.length_map, List.length_set]; omega) ?_)
                    refine TZ.pure 16 rfl z_F z_F z_F z_F rfl (fun _ _ _ h => h) (fun _ => V1.indexAddrS ty_36 sz_27 rfl rfl (by omega) (by omega)) ?_
                    refine TZ.one 17 z_F rfl z_F rfl (T1.storeE (o := off + (j - 1) * 1) (off := off) (size := size) (cells := ((us).set (j) (g us (j - 1))).map u32V) (cells' := (((us).set (j) (g us (j - 1))).set (j - 1) (g us (j))).map u32V) (v := u32V (g us (j))) rfl rfl sz_27 rfl (by rw [show off + (j - 1) * 1 - off = j - 1 by omega]; exact List.map_set.symm) z_H (by omega) (by simp only [List.length_map, List.length_set]; omega) ?_)
                    refine TZ.done z_F ?_
                    refine T.live (l := [(0, _), (1, _), (2, _), (7, _), (8, _), (10, _)]) (.cons z_B (.cons z_B (.cons z_B (.cons z_B (.cons z_B (.cons z_B .nil)))))) (fun e_ => ?_)
                    refine T.region ?_
                    refine TL.cons rfl (V1.t (V1.move' z_B) ?_)
                    refine TL.cons rfl (V1.t (V1.add (c := ((j + 1 : Nat) : Int)) rfl rfl (by rw [wrap_i64 _ (by omega) (by omega)]; omega)) ?_)
                    refine TL.cons rfl (V1.t (V1.assign' z_B) ?_)
                    refine TL.nil ?_
                    exact ⟨(j + 1, swp us j (j - 1)), (⟨b, off, (swp us j (j - 1)).map u32V, size⟩ : Blk) :: G, _, (by simp only; omega), (.cons rfl .nil), (.cons rfl (.cons rfl (.cons rfl (.cons rfl (.cons rfl .nil))))), z_A, ⟨rfl, by simp only; omega, by simp only; omega, hsw5.trans (Sw.swap (by omega) (by omega) (by omega) (by omega) (by omega)), has5.swapped (by omega) (by omega) (by omega) (by omega)⟩⟩
                  ·
                    refine T.drawDet' mixed z_F ?_
                    refine Det.cons 0 (ins := [(0, _)]) (.old z_B z_F .nil) (fun e_ => .inl ⟨rfl, V1.t (V1.move' z_B) ⟨rfl, rfl⟩⟩) ?_
                    refine Det.cons 1 (ins := [(10, _)]) (.old z_B z_F .nil) (fun e_ => .inl ⟨rfl, V1.t (V1.move' z_B) ⟨rfl, rfl⟩⟩) ?_
                    refine Det.cons 2 (ins := [(106, _), (107, _)]) (.new 0 1 z_F rfl rfl (.new 1 0 z_F rfl rfl .nil)) (fun e_ => .inl ⟨rfl, V1.t (V1.indexAddrS ty_36 sz_27 rfl rfl (by omega) (by omega)) ⟨rfl, rfl⟩⟩) ?_
                    refine Det.cons 3 (ins := [(108, _)]) (.new 2 0 z_F rfl rfl .nil) (fun e_ => .inl ⟨rfl, V1.t (V1.load1 (v := u32V (g us (j))) one_27 rfl (ib_rd (cs := (us).map u32V) (k := j) z_D (gV (by omega)))) ⟨rfl, rfl⟩⟩) ?_
                    refine Det.cons 4 (ins := [(0, _)]) (.old z_B z_F .nil) (fun e_ => .inl ⟨rfl, V1.t (V1.move' z_B) ⟨rfl, rfl⟩⟩) ?_
                    refine Det.cons 5 (ins := [(10, _)]) (.old z_B z_F .nil) (fun e_ => .inl ⟨rfl, V1.t (V1.move' z_B) ⟨rfl, rfl⟩⟩) ?_
                    refine Det.cons 6 (ins := [(111, _)]) (.new 5 0 z_F rfl rfl .nil) (fun e_ => .inl ⟨rfl, V1.t (V1.sub (c := ((j - 1 : Nat) : Int)) rfl rfl (by rw [wrap_i64 _ (by omega) (by omega)]; omega)) ⟨rfl, rfl⟩⟩) ?_
                    refine Det.cons 7 (ins := [(110, _), (112, _)]) (.new 4 2 z_F rfl rfl (.new 6 0 z_F rfl rfl .nil)) (fun e_ => .inl ⟨rfl, V1.t (V1.indexAddrS ty_36 sz_27 rfl rfl (by omega) (by omega)) ⟨rfl, rfl⟩⟩) ?_
                    refine Det.cons 8 (ins := [(113, _)]) (.new 7 0 z_F rfl rfl .nil) (fun e_ => .inl ⟨rfl, V1.t (V1.load1 (v := u32V (g us (j - 1))) one_27 rfl (ib_rd (cs := (us).map u32V) (k := j - 1) z_D (gV (by omega)))) ⟨rfl, rfl⟩⟩) ?_
                    refine Det.cons 9 (ins := [(109, _), (114, _)]) (v := .bool false) (.new 3 5 z_F rfl rfl (.new 8 0 z_F rfl rfl .nil)) (fun e_ => .inl ⟨rfl, ?_⟩) ?_
                    · refine T1.call0 has_66 rfl (fun w hs => LessI_any (g us (j) : Int) (g us (j - 1) : Int) w) (fun v_ hv => ?_)
                      obtain rfl := hv
                      rw [decide_eq_false (by omega)]
                      exact ⟨rfl, rfl⟩
                    refine Det.cons 10 (ins := [(115, _)]) (.new 9 0 z_F rfl rfl .nil) (fun e_ => .inl ⟨rfl, V1.t (V1.not rfl rfl) ⟨rfl, rfl⟩⟩) ?_
                    refine Det.nil 11 (l := [(0, _), (1, _), (2, _), (7, _), (8, _), (10, _), (116, _)]) (.old z_B z_F (.old z_B z_F (.old z_B z_F (.old z_B z_F (.old z_B z_F (.old z_B z_F (.new 10 0 z_F rfl rfl .nil))))))) (fun e_ => ?_)
                    refine T.cond_t rfl ?_
                    refine T.exit ?_
                    exact ⟨(i, us), _, _, trivial, (.cons rfl .nil), (.cons rfl (.cons rfl (.cons rfl (.cons rfl .nil)))), z_A, ⟨rfl, ⟨hi3, hi4⟩, hsw5, has5⟩⟩
                ·
                  refine TL.nil ?_
                  refine T.cond_f rfl ?_
                  refine T.exit ?_
                  exact ⟨(i, us), _, _, trivial, (.cons rfl .nil), (.cons rfl (.cons rfl (.cons rfl (.cons rfl .nil)))), z_A, ⟨rfl, ⟨hi3, hi4⟩, hsw5, has5⟩⟩
              ·
                refine TL.nil ?_
                refine T.cond_f rfl ?_
                refine T.skip ?_
                exact ⟨(i, zs), _, _, trivial, (.cons rfl .nil), (.cons rfl (.cons rfl (.cons rfl (.cons rfl .nil)))), z_A, ⟨rfl, ⟨hi3, hi4⟩, hsw4, has4⟩⟩
    ·
      rintro ⟨i, ws⟩ e_ L ⟨rfl, ⟨hi3, hi4⟩, hsw5, has5⟩
      dsimp only at hi3 hi4 hsw5 has5
      dsimp only
      refine T.region ?_
      refine TL.cons rfl (V1.t (V1.move' z_B) ?_)
      refine TL.cons rfl (V1.t (V1.add (c := ((st + 1 : Nat) : Int)) rfl rfl (by rw [wrap_i64 _ (by omega) (by omega)]; omega)) ?_)
      refine TL.cons rfl (V1.t (V1.assign' z_B) ?_)
      refine TL.nil ?_
      exact ⟨(st + 1, i, ws), (⟨b, off, (ws).map u32V, size⟩ : Blk) :: G, _, (by simp only; omega), (.cons rfl (.cons rfl .nil)), (.cons rfl (.cons rfl (.cons rfl .nil))), z_A, ⟨rfl, by simp only; omega, hi3, by simp only; omega, hsw5, has5⟩⟩
  ·
    refine TL.nil ?_
    refine T.cond_f rfl ?_
    refine T.exit ?_
    refine T.seq ?_
    refine T.region ?_
    refine TL.cons rfl (V1.t (V1.assign' z_B) ?_)
    refine TL.nil ?_
    refine T.ret ?_
    exact ⟨_, _ :: G, _, .cons (.tmp z_B) .nil, z_A, [_], rfl, xs, false, rfl, rfl, hsw, fun h => (by cases h)⟩

end Go.Proofs.Ytijijaobialncaa.S
