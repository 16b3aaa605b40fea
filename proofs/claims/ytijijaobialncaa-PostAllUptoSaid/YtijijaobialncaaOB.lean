/- A small head: hands. -/
import Derived.Test.YtijijaobialncaaOA
namespace Go.Proofs.Ytijijaobialncaa.S
open Go.RowKit

def hE : List UInt8 := UInt8.ofNat 7 :: (List.replicate 32 0 ++ (be32 1 ++ (be32 1 ++ [120])))
abbrev q1 : Pr := ⟨1, none, [], []⟩
abbrev q2 : Pr := ⟨2, none, [], []⟩
theorem h_send : sendP [q2, q1] 1 [120] [2] = ([⟨2, none, [], [hE]⟩, q1], 0) := by rfl
theorem h_take : takeP [⟨2, none, [], [hE]⟩, q1] 2 0 = ([q2, q1], some hE) := by rfl
theorem h_dec : decF hE = .ok (7, [List.replicate 32 0], [1], [], [120]) := by kernel_rfl
theorem h_pub : pubP [q2, q1] 1 (bunF 5) [bunF 6] = ([q2, ⟨1, some (bunF 5), [bunF 6], []⟩], 0) := by rfl
theorem h_fetch1 : fetchP [q2, ⟨1, some (bunF 5), [bunF 6], []⟩] 1 = ([q2, ⟨1, some (bunF 5), [], []⟩], some (bunF 6)) := by rfl
theorem h_fetch2 : fetchP [q2, ⟨1, some (bunF 5), [], []⟩] 1 = ([q2, ⟨1, some (bunF 5), [], []⟩], some (bunF 5)) := by rfl
theorem FrsR.one {w0 : World} {Ps : List Blk} {b sz c : Nat} {cs : List Value} {f : Frm} (hB : (⟨b, 0, [cs].flatten, sz⟩ : Blk) ∈ Ps) (h : FrmR w0 Ps (.agg cs.toArray) f) : FrsR w0 Ps (.slice (some ⟨b, 0, none⟩) 1 c) [f] [cs] := by
  obtain ⟨h5, h1, _⟩ := h.cells2
  refine ⟨RowR.own (tg := none) (size := sz) hB (by simp [h5]), rfl, fun c_ hc => ?_, fun i g c_ hg hc => ?_⟩
  · rw [List.mem_singleton] at hc; subst hc; exact ⟨h5, h1⟩
  · cases i with
    | zero => simp at hg hc; subst hg; subst hc; exact h
    | succ i => simp at hg
theorem Sl.row1 {w0 : World} {v : Value} {xs : List Value} {X : List Blk} (h : Sl v xs 1 X) (n : Nat) (hn : xs.length = n) : RowS w0 X 1 v n xs := RowS.ofSl h Inc.refl (by decide) n (by rw [hn, Nat.mul_one])
set_option maxRecDepth 100000 in
set_option maxHeartbeats 8000000 in
theorem hands_any (w0 : World) (Ps : List Blk) : FnV P 8 [] w0 Ps (fun v => v = .bool true) := by
  refine FnV.of 131 [.tmp 0] Go.Proofs.Try.func8 rfl rfl rfl rfl (fun G hG => ?_)
  refine T.seq ?_
  refine T.region ?_
  refine TL.cons rfl (V1.t (V1.assign' z_B) ?_)
  refine TL.nil ?_
  refine T.seq ?_
  refine T.region ?_
  refine TL.cons rfl (T1.callC has_9 rfl rfl (New_any w0) z_E (fun v_ X0 hv => ?_))
  obtain ⟨p, rfl, hS0⟩ := hv
  refine TL.cons rfl (V1.t (V1.assign' z_B) ?_)
  refine TL.nil ?_
  refine T.seq ?_
  refine T.seq ?_
  refine T.region ?_
  refine TL.cons rfl (V1.t (V1.move' z_B) ?_)
  refine TL.cons rfl (V1.t (V1.eqPn ty_23 rfl rfl) ?_)
  refine TL.cons rfl (V1.t (V1.move' z_B) ?_)
  refine TL.cons rfl (V1.t (V1.move' z_B) ?_)
  refine TL.cons rfl (T1.callM («as» := [.pointer (some ⟨p, 0, none⟩), u32V 2]) (X := X0) has_10 rfl rfl (Join_any w0 hS0 2 (by decide)) z_A z_E (fun v_ X1 hv => ?_))
  obtain ⟨hv, hS1⟩ := hv
  replace hv : v_ = .int .i64 0 := hv
  subst hv
  refine TL.cons rfl (V1.t (V1.neI (r := false) rfl rfl rfl) ?_)
  refine TL.cons rfl (V1.t (V1.pick rfl z_B) ?_)
  refine TL.cons rfl (V1.t (V1.move' z_B) ?_)
  refine TL.cons rfl (V1.t (V1.move' z_B) ?_)
  refine TL.cons rfl (T1.callM («as» := [.pointer (some ⟨p, 0, none⟩), u32V 1]) (X := X1) has_10 rfl rfl (Join_any w0 hS1 1 (by decide)) z_A z_E (fun v_ X2 hv => ?_))
  obtain ⟨hv, hS2⟩ := hv
  replace hv : v_ = .int .i64 0 := hv
  subst hv
  refine TL.cons rfl (V1.t (V1.neI (r := false) rfl rfl rfl) ?_)
  refine TL.cons rfl (V1.t (V1.pick rfl z_B) ?_)
  refine TL.cons rfl (V1.t (V1.move' z_B) ?_)
  refine TL.cons rfl (V1.t (V1.move' z_B) ?_)
  refine TL.cons rfl (T1.callM («as» := [.pointer (some ⟨p, 0, none⟩), u32V 1]) (X := X2) has_10 rfl rfl (Join_any w0 hS2 1 (by decide)) z_A z_E (fun v_ X3 hv => ?_))
  obtain ⟨hv, hS3⟩ := hv
  replace hv : v_ = .int .i64 5 := hv
  subst hv
  refine TL.cons rfl (V1.t (V1.neI (r := false) rfl rfl rfl) ?_)
  refine TL.cons rfl (V1.t (V1.pick rfl z_B) ?_)
  refine TL.cons rfl (V1.t (V1.move' z_B) ?_)
  refine TL.cons rfl (V1.t (V1.move' z_B) ?_)
  refine TL.cons rfl (T1.buildSl1 (os := [.const (.int .u8 120)]) (vs := [byteV 120]) ty_29 sz_5 zr_5 (by decide) rfl (.cons rfl .nil) rfl (ones rfl) (fun b31 => ?_))
  refine TL.cons rfl (T1.convLit ty_29 ty_5 rfl z_H ?_)
  refine TL.cons rfl (T1.buildSl1 (os := [.const (.int .u32 2)]) (vs := [u32V 2]) ty_36 sz_27 zr_27 (by decide) rfl (.cons rfl .nil) rfl (ones rfl) (fun b33 => ?_))
  refine TL.cons rfl (T1.callM («as» := [.pointer (some ⟨p, 0, none⟩), u32V 1, .slice (some ⟨b31, 0, none⟩) 1 1, .slice (some ⟨b33, 0, none⟩) 1 1]) (X := X3) has_11 rfl rfl (Send_any w0 [(⟨b31, 0, [byteV 120], 1⟩ : Blk), (⟨b33, 0, [u32V 2], 1⟩ : Blk)] hS3 1 (by decide) (l := [120]) ((RowS.ofSl (tg := none) (Ls := [(⟨b31, 0, [byteV 120], 1⟩ : Blk)]) (.inr ⟨b31, 0, 1, 1, 1, rfl, rfl, Nat.le_refl _, Nat.le_refl _, rfl⟩) (fun B_ hB_ => by rw [List.mem_singleton] at hB_; subst hB_; simp) (by decide) 1 rfl : RowS w0 _ 1 (.slice (some ⟨b31, 0, none⟩) 1 1) 1 [byteV 120]).row) (ns := [2]) (RowS.ofSl (tg := none) (Ls := [(⟨b33, 0, [u32V 2], 1⟩ : Blk)]) (.inr ⟨b33, 0, 1, 1, 1, rfl, rfl, Nat.le_refl _, Nat.le_refl _, rfl⟩) (fun B_ hB_ => by rw [List.mem_singleton] at hB_; subst hB_; simp) (by decide) 1 rfl) (by decide)) z_A z_E (fun v_ X4 hv => ?_))
  obtain ⟨hv, hS4⟩ := hv
  replace hS4 : SrvO p [⟨2, none, [], [hE]⟩, q1] X4 := by have h_ := hS4; rw [show (joinP (joinP (joinP [] 2).1 1).1 1).1 = [q2, q1] from rfl, h_send] at h_; exact h_
  rw [show (joinP (joinP (joinP [] 2).1 1).1 1).1 = [q2, q1] from rfl, h_send] at hv
  subst hv
  refine TL.cons rfl (V1.t (V1.neI (r := false) rfl rfl rfl) ?_)
  refine TL.cons rfl (V1.t (V1.pick rfl z_B) ?_)
  refine TL.cons rfl (V1.t (V1.move' z_B) ?_)
  refine TL.cons rfl (V1.t (V1.move' z_B) ?_)
  refine TL.cons rfl (T1.callV («as» := [.pointer (some ⟨p, 0, none⟩), u32V 2]) (Ps := X4) has_12 rfl rfl (Waiting_any w0 hS4 2) z_E (fun v_ hv => ?_))
  replace hv : v_ = .int .i64 1 := hv
  subst hv
  refine TL.cons rfl (V1.t (V1.neI (r := false) rfl rfl rfl) ?_)
  refine TL.cons rfl (V1.t (V1.pick rfl z_B) ?_)
  refine TL.nil ?_
  refine T.cond_f rfl ?_
  refine T.skip ?_
  refine T.seq ?_
  refine T.live (l := [(1, _)]) (.cons z_B .nil) (fun e_ => ?_)
  refine T.region ?_
  refine TL.cons rfl (V1.t (V1.move' z_B) ?_)
  refine TL.cons rfl (T1.callM («as» := [.pointer (some ⟨p, 0, none⟩), u32V 2, .int .i64 0]) (X := X4) has_13 rfl rfl (Take_any w0 hS4 2 0) z_A z_E (fun v_ Y5 hv => ?_))
  obtain ⟨Yf, X5, rfl, hS5, hT⟩ := hv
  rw [h_take] at hS5 hT
  obtain ⟨sb, rfl, hsb⟩ := hT
  obtain ⟨ba, bc, rfl⟩ := hsb.of (n := 42) rfl (by decide)
  simp only [List.append_assoc]
  refine TL.cons rfl (V1.t (V1.move' z_B) ?_)
  refine TL.cons rfl (V1.t (V1.extract rfl (by rfl)) ?_)
  refine TL.cons rfl (V1.t (V1.extract rfl (by rfl)) ?_)
  refine TL.cons rfl (V1.t (V1.assign' z_B) ?_)
  refine TL.cons rfl (V1.t (V1.assign' z_B) ?_)
  refine TL.nil ?_
  refine T.seq ?_
  refine T.region ?_
  refine TL.cons rfl (V1.t (V1.move' z_B) ?_)
  refine TL.cons rfl (T1.callC (Ps := Yf) has_14 rfl rfl (Decode_G w0 (l := hE) (hsb.row1 42 rfl) (by decide)) z_E (fun v_ Yd hd => ?_))
  unfold decR at hd
  rw [h_dec] at hd
  obtain ⟨sk, sn, ss, sd, Yk, Yn, Ys, Yx, rfl, hk, hnn, hss, hdd, rfl⟩ := hd
  obtain ⟨ka, kc, rfl⟩ := hk.of (n := 1) rfl (by decide)
  obtain ⟨na, nc, rfl⟩ := hnn.of (n := 1) rfl (by decide)
  obtain ⟨nb, no, nsz, rfl, rfl, _⟩ := hnn.someK (by decide)
  obtain ⟨xa, xc, rfl⟩ := hss.of (n := 0) rfl (by decide)
  obtain ⟨da, dc, rfl⟩ := hdd.of (n := 1) rfl (by decide)
  simp only [List.append_assoc, List.cons_append, List.nil_append]
  refine TL.cons rfl (V1.t (V1.move' z_B) ?_)
  refine TL.cons rfl (V1.t (V1.extract rfl (by rfl)) ?_)
  refine TL.cons rfl (V1.t (V1.extract rfl (by rfl)) ?_)
  refine TL.cons rfl (T1.allocN 5 zr_39 rfl (fun b4 => ?_))
  refine TL.cons rfl (T1.storeN rfl rfl sz_39 (ones rfl) z_H (by rfl) (by rfl) ?_)
  refine TL.cons rfl (V1.t (V1.assign' z_B) ?_)
  refine TL.nil ?_
  refine T.seq ?_
  refine T.live (l := [(1, _), (3, _), (4, _), (5, _)]) (.cons z_B (.cons z_B (.cons z_B (.cons z_B .nil)))) (fun e_ => ?_)
  refine T.region ?_
  refine TL.cons rfl (V1.t (V1.move' z_B) ?_)
  refine TL.cons rfl (T1.callC («as» := [u32V 5]) has_15 rfl rfl (bundle_any w0 5) z_E (fun v_ Y5 hv => ?_))
  obtain ⟨c5, rfl, hf5⟩ := hv
  refine TL.cons rfl (T1.callC («as» := [u32V 6]) has_15 rfl rfl (bundle_any w0 6) z_E (fun v_ Y6 hv => ?_))
  obtain ⟨c6, rfl, hf6⟩ := hv
  refine TL.cons rfl (T1.buildSlN (os := [.tmp 54]) (vss := [c6]) ty_42 sz_39 zr_39 (by decide) rfl (.cons z_B .nil) z_K (by rfl) (by intro y hy; simp only [List.mem_singleton] at hy; subst hy; exact hf6.len) (fun b55 => ?_))
  refine TL.cons rfl (T1.callM («as» := [.pointer (some ⟨p, 0, none⟩), u32V 1, .agg c5.toArray, .slice (some ⟨b55, 0, none⟩) 1 1]) (X := X5) has_16 rfl rfl (Publish_any w0 ((⟨b55, 0, [c6].flatten, 1 * 5⟩ : Blk) :: (Y6 ++ Y5)) hS5 1 (co := c5) (o := bunF 5) (hf5.read (bunF_wf (by decide)) (Inc.skip1 (Inc.skip Inc.refl))) (fs := [bunF 6]) (css := [c6]) (FrsR.one (List.mem_cons_self ..) (hf6.read (bunF_wf (by decide)) (Inc.skip1 Inc.here))) (by decide)) z_A z_E (fun v_ X6 hv => ?_))
  obtain ⟨hv, hS6⟩ := hv
  rw [h_pub] at hS6
  replace hv : v_ = .int .i64 0 := by rw [hv, h_pub]
  subst hv
  refine TL.cons rfl (V1.t (V1.assign' z_B) ?_)
  refine TL.nil ?_
  refine T.seq ?_
  refine T.region ?_
  refine TL.cons rfl (V1.t (V1.move' z_B) ?_)
  refine TL.cons rfl (T1.callM («as» := [.pointer (some ⟨p, 0, none⟩), u32V 1]) (X := X6) has_18 rfl rfl (Fetch_any w0 hS6 1) z_A z_E (fun v_ Yt hv => ?_))
  obtain ⟨Yg1, X7, rfl, hS7, hT⟩ := hv
  rw [h_fetch1] at hS7 hT
  obtain ⟨cg, rfl, hg⟩ := hT
  obtain ⟨sk1, sn1, ss1, sd1, K1, N1, S1, D1, rfl, hk1, hn1, hs1, hd1, rfl⟩ := hg
  obtain ⟨n1a, n1c, rfl⟩ := hn1.of (n := 2) rfl (by decide)
  obtain ⟨n1b, n1o, n1z, rfl, rfl, _⟩ := hn1.someK (by decide)
  simp only [List.append_assoc, List.cons_append, List.nil_append]
  refine TL.cons rfl (V1.t (V1.move' z_B) ?_)
  refine TL.cons rfl (V1.t (V1.extract rfl (by rfl)) ?_)
  refine TL.cons rfl (V1.t (V1.extract rfl (by rfl)) ?_)
  refine TL.cons rfl (T1.allocN 5 zr_39 rfl (fun b7 => ?_))
  refine TL.cons rfl (T1.storeN (vs := [.int .i64 1, sk1, .slice (some ⟨n1b, n1o, none⟩) 2 n1c, ss1, sd1]) rfl rfl sz_39 (by intro u hu; simp only [List.mem_cons, List.not_mem_nil, or_false] at hu; rcases hu with rfl | rfl | rfl | rfl | rfl; rfl; exact hk1.one; rfl; exact hs1.one; exact hd1.one) z_H (by rfl) (by rfl) ?_)
  refine TL.cons rfl (V1.t (V1.assign' z_B) ?_)
  refine TL.nil ?_
  refine T.seq ?_
  refine T.region ?_
  refine TL.cons rfl (V1.t (V1.move' z_B) ?_)
  refine TL.cons rfl (T1.callM («as» := [.pointer (some ⟨p, 0, none⟩), u32V 1]) (X := X7) has_18 rfl rfl (Fetch_any w0 hS7 1) z_A z_E (fun v_ Yt hv => ?_))
  obtain ⟨Yg2, X8, rfl, hS8, hT⟩ := hv
  rw [h_fetch2] at hS8 hT
  obtain ⟨cg, rfl, hg⟩ := hT
  obtain ⟨sk2, sn2, ss2, sd2, K2, N2, S2, D2, rfl, hk2, hn2, hs2, hd2, rfl⟩ := hg
  obtain ⟨n2a, n2c, rfl⟩ := hn2.of (n := 2) rfl (by decide)
  obtain ⟨n2b, n2o, n2z, rfl, rfl, _⟩ := hn2.someK (by decide)
  simp only [List.append_assoc, List.cons_append, List.nil_append]
  refine TL.cons rfl (V1.t (V1.move' z_B) ?_)
  refine TL.cons rfl (V1.t (V1.extract rfl (by rfl)) ?_)
  refine TL.cons rfl (V1.t (V1.extract rfl (by rfl)) ?_)
  refine TL.cons rfl (T1.allocN 5 zr_39 rfl (fun b9 => ?_))
  refine TL.cons rfl (T1.storeN (vs := [.int .i64 1, sk2, .slice (some ⟨n2b, n2o, none⟩) 2 n2c, ss2, sd2]) rfl rfl sz_39 (by intro u hu; simp only [List.mem_cons, List.not_mem_nil, or_false] at hu; rcases hu with rfl | rfl | rfl | rfl | rfl; rfl; exact hk2.one; rfl; exact hs2.one; exact hd2.one) z_H (by rfl) (by rfl) ?_)
  refine TL.cons rfl (V1.t (V1.assign' z_B) ?_)
  refine TL.nil ?_
  refine T.seq ?_
  refine T.live (l := [(1, _), (3, _), (4, _), (5, _), (6, _), (7, _), (8, _), (9, _), (10, _)]) (.cons z_B (.cons z_B (.cons z_B (.cons z_B (.cons z_B (.cons z_B (.cons z_B (.cons z_B (.cons z_B .nil))))))))) (fun e_ => ?_)
  refine T.region ?_
  refine TL.cons rfl (V1.t (V1.move' z_B) ?_)
  refine TL.cons rfl (V1.t (V1.eqI (r := true) rfl rfl rfl) ?_)
  refine TL.cons rfl (V1.t (V1.move' z_B) ?_)
  refine TL.cons rfl (V1.t (V1.move' z_B) ?_)
  refine TL.cons rfl (V1.t (V1.eqI (r := true) rfl rfl rfl) ?_)
  refine TL.cons rfl (V1.t (V1.pick rfl z_B) ?_)
  refine TL.cons rfl (V1.t (V1.move' z_B) ?_)
  refine TL.cons rfl (V1.t (V1.fieldAddr fl_39_4 rfl) ?_)
  refine TL.cons rfl (V1.t (V1.load1 one_29 rfl (.own z_D (by rfl))) ?_)
  refine TL.cons rfl (V1.t (V1.bytesToStr (l := [120]) ty_29 ty_5 ty_9 rfl ((hdd.row1 1 rfl).row.src _ rfl rfl _ z_E) (by intro b h; cases h)) ?_)
  refine TL.cons rfl (V1.t (V1.eqS (r := true) rfl rfl (by rfl)) ?_)
  refine TL.cons rfl (V1.t (V1.pick rfl z_B) ?_)
  refine TL.cons rfl (V1.t (V1.move' z_B) ?_)
  refine TL.cons rfl (V1.t (V1.fieldAddr fl_39_2 rfl) ?_)
  refine TL.cons rfl (V1.t (V1.load1 one_36 rfl (.own z_D (by rfl))) ?_)
  refine TL.cons rfl (V1.t (V1.indexAddrS ty_36 sz_27 rfl rfl (by decide) (by decide)) ?_)
  refine TL.cons rfl (V1.t (V1.load1 (v := u32V 1) one_27 rfl (ib_rd (b := nb) (off := no) (cs := [u32V 1]) (k := 0) z_D rfl)) ?_)
  refine TL.cons rfl (V1.t (V1.eqI (r := true) rfl rfl rfl) ?_)
  refine TL.cons rfl (V1.t (V1.pick rfl z_B) ?_)
  refine TL.cons rfl (V1.t (V1.move' z_B) ?_)
  refine TL.cons rfl (V1.t (V1.move' z_B) ?_)
  refine TL.cons rfl (V1.t (V1.eqI (r := true) rfl rfl rfl) ?_)
  refine TL.cons rfl (V1.t (V1.pick rfl z_B) ?_)
  refine TL.cons rfl (V1.t (V1.move' z_B) ?_)
  refine TL.cons rfl (V1.t (V1.move' z_B) ?_)
  refine TL.cons rfl (V1.t (V1.eqI (r := true) rfl rfl rfl) ?_)
  refine TL.cons rfl (V1.t (V1.pick rfl z_B) ?_)
  refine TL.cons rfl (V1.t (V1.move' z_B) ?_)
  refine TL.cons rfl (V1.t (V1.move' z_B) ?_)
  refine TL.cons rfl (V1.t (V1.eqI (r := true) rfl rfl rfl) ?_)
  refine TL.cons rfl (V1.t (V1.pick rfl z_B) ?_)
  refine TL.cons rfl (V1.t (V1.move' z_B) ?_)
  refine TL.cons rfl (V1.t (V1.fieldAddr fl_39_2 rfl) ?_)
  refine TL.cons rfl (V1.t (V1.load1 one_36 rfl (.own z_D (by rfl))) ?_)
  refine TL.cons rfl (V1.t (V1.indexAddrS ty_36 sz_27 rfl rfl (by decide) (by decide)) ?_)
  refine TL.cons rfl (V1.t (V1.load1 (v := u32V 6) one_27 rfl (ib_rd (b := n1b) (off := n1o) (cs := [u32V 6, u32V 6]) (k := 0) z_D rfl)) ?_)
  refine TL.cons rfl (V1.t (V1.eqI (r := true) rfl rfl rfl) ?_)
  refine TL.cons rfl (V1.t (V1.pick rfl z_B) ?_)
  refine TL.cons rfl (V1.t (V1.move' z_B) ?_)
  refine TL.cons rfl (V1.t (V1.fieldAddr fl_39_2 rfl) ?_)
  refine TL.cons rfl (V1.t (V1.load1 one_36 rfl (.own z_D (by rfl))) ?_)
  refine TL.cons rfl (V1.t (V1.indexAddrS ty_36 sz_27 rfl rfl (by decide) (by decide)) ?_)
  refine TL.cons rfl (V1.t (V1.load1 (v := u32V 5) one_27 rfl (ib_rd (b := n2b) (off := n2o) (cs := [u32V 5, u32V 5]) (k := 0) z_D rfl)) ?_)
  refine TL.cons rfl (V1.t (V1.eqI (r := true) rfl rfl rfl) ?_)
  refine TL.cons rfl (V1.t (V1.pick rfl z_B) ?_)
  refine TL.cons rfl (V1.t (V1.move' z_B) ?_)
  refine TL.cons rfl (V1.t (V1.move' z_B) ?_)
  refine TL.cons rfl (T1.callV («as» := [.pointer (some ⟨p, 0, none⟩), u32V 1]) (Ps := X8) has_17 rfl rfl (Left_any w0 hS8 1) z_E (fun v_ hv => ?_))
  replace hv : v_ = .int .i64 0 := hv
  subst hv
  refine TL.cons rfl (V1.t (V1.eqI (r := true) rfl rfl rfl) ?_)
  refine TL.cons rfl (V1.t (V1.pick rfl z_B) ?_)
  refine TL.cons rfl (V1.t (V1.move' z_B) ?_)
  refine TL.cons rfl (V1.t (V1.move' z_B) ?_)
  refine TL.cons rfl (T1.callC («as» := [.pointer (some ⟨p, 0, none⟩)]) (Ps := X8) has_22 rfl rfl (People_any w0 hS8 (by decide)) z_E (fun v_ Yp hv => ?_))
  obtain ⟨pn, hpp, _, hps⟩ := hv
  obtain ⟨pa, pc, rfl⟩ := hps.of (n := 2) (by rw [List.length_map, hpp.length_eq]; rfl) (by decide)
  refine TL.cons rfl (V1.t (V1.lenSl ty_36 rfl) ?_)
  refine TL.cons rfl (V1.t (V1.eqI (r := true) rfl rfl rfl) ?_)
  refine TL.cons rfl (V1.t (V1.pick rfl z_B) ?_)
  refine TL.cons rfl (V1.t (V1.move' z_B) ?_)
  refine TL.cons rfl (V1.t (V1.pick rfl z_B) ?_)
  refine TL.cons rfl (V1.t (V1.move' z_B) ?_)
  refine TL.cons rfl (V1.t (V1.pick rfl z_B) ?_)
  refine TL.cons rfl (V1.t (V1.move' z_B) ?_)
  refine TL.cons rfl (V1.t (V1.pick rfl z_B) ?_)
  refine TL.cons rfl (V1.t (V1.move' z_B) ?_)
  refine TL.cons rfl (V1.t (V1.pick rfl z_B) ?_)
  refine TL.cons rfl (V1.t (V1.assign' z_B) ?_)
  refine TL.nil ?_
  refine T.ret ?_
  exact ⟨_, G, _, .cons (.tmp z_B) .nil, z_A, rfl, rfl⟩

end Go.Proofs.Ytijijaobialncaa.S
