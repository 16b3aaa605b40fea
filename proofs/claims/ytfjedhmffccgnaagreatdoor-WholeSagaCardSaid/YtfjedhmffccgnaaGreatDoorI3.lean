/- A signature that was made checks. -/
import Derived.Test.YtfjedhmffccgnaaGreatDoorI1
namespace Go.Proofs.YtfjedhmffccgnaaGreatDoor.S
open Go.RowKit
open Ed Sh
theorem PNeg_pt {A : Pt crv} {p : P4} (hp : PtR A p) (w : World) : Fn P 64 [ptV p] w [] (fun v Y => Y = [] ∧ PtV A.neg v) :=
 (fun a b => (PNeg_any p w a b).mono fun _ _ ⟨v, Y, h1, h2, h3, h4⟩ => ⟨v, Y, h1, h2, h3, ⟨_, h4, neg_pt hp⟩⟩)
def MPts (w0 : World) (A B : Pt crv) : Value → List Blk → Prop := fun v Y => ∃ p q a c, v = .slice a 2 c ∧ PtR A p ∧ PtR B q ∧ RowR w0 Y 20 (.slice a 2 c) 2 ([p, q].flatMap ptC)
theorem MPts.mono {w0 : World} {A B : Pt crv} (v : Value) (Y Z : List Blk) (h : MPts w0 A B v Y) : MPts w0 A B v (Z ++ Y) := by
 obtain ⟨p, q, a, c, h1, h2, h3, h4⟩ := h; exact ⟨p, q, a, c, h1, h2, h3, h4.more (Inc.skip Inc.refl)⟩
theorem sig_front {R : Pt crv} {b : Nat} : (((encP R ++ leF b).map byteV).drop 0).take 32 = (encP R).map byteV := by
 rw [List.drop_zero, ← List.map_take, List.take_left' (encP_len R)]
theorem sig_back {R : Pt crv} {b : Nat} : (((encP R ++ leF b).map byteV).drop 32).take 32 = (leF b).map byteV := by
 rw [← List.map_drop, List.drop_left' (encP_len R), ← List.map_take, List.take_of_length_le (by rw [leF_len]; exact Nat.le_refl _)]
theorem sig_len (R : Pt crv) (b : Nat) : ((encP R ++ leF b).map byteV).length = 64 := by rw [List.length_map, List.length_append, encP_len, leF_len]
theorem sum_zero {A B R : Pt crv} (h : A.add B = R) : ((Pt.zero crv).add A).add B = R := by rw [Pt.zero_add]; exact h
set_option maxRecDepth 100000 in
set_option maxHeartbeats 2000000 in
theorem Check_pt (w0 : World) (Ps : List Blk) {v : Value} (A R : Pt crv) (b k : Nat) (ps : List (List UInt8)) (m : List UInt8) (hm : ps.flatten = m) (hml : m.length ≤ 1000000) (hp : PartsR w0 Ps v ps) (hpn : ps.length ≤ 8) (h8 : ¬ Pt.smul 8 A = Pt.zero crv) (hb : b < Lo) (hk : k = redL ((encP R) ++ ((encP A) ++ m))) (hsum : (Pt.smul b Bs).add (Pt.smul k A.neg) = R) : FnV P 28 [.agg (((encP A)).map byteV).toArray, .agg (((encP R) ++ leF b).map byteV).toArray, v] w0 Ps (fun v => v = .int .i64 0) := by
 obtain ⟨svs, hsl2, hso, hsv, hse⟩ := hp.svs
 have hlp := parts_len hm hml
 have hb2 : b < 2 ^ 256 := Nat.lt_trans hb (Nat.lt_trans Lo_lt ze)
 refine FnV.of 60 [.tmp 6] Go.Proofs.Tryz.func28 rfl rfl rfl rfl (fun G hG => ?_)
 refine zs ?_
 refine zc (T1.boxN (vs := ((encP A)).map byteV) 32 rfl (by rw [List.length_map, encP_len A]) (fun b3 => ?_))
 refine zc (T1.boxN (vs := ((encP R) ++ leF b).map byteV) 64 rfl (sig_len R b) (fun b4 => zs ?_))
 refine z0 (V1.loadN (vs := ((encP A)).map byteV) one_36 sz_36 rfl (RdN.whole z_A) (by rw [List.length_map, encP_len])) ?_
 refine zc (T1.call0 has_60 rfl (fun w hs => Decode_pt A w) (fun v hv => ?_))
 obtain ⟨pa, rfl, hpa⟩ := hv
 refine zs ?_
 refine zc (T1.allocN 20 zr_84 rfl (fun b7 => ?_))
 refine zc (T1.storeN rfl rfl sz_84 (ones rfl) z_H zr zr ?_)
 refine zs ?_
 refine z0 (V1.neI rfl rfl (decide_eq_false zw)) ?_
 refine TL.nil ?_
 refine T.cond_f rfl (T.skip (T.seq (T.drawMT (FL [MV (.slice (some ⟨b4, 0, none⟩) 32 64), zp b4 0, MV (.agg (((encP R)).map byteV).toArray), MV (.slice (some ⟨b4, 32, none⟩) 32 32), zp b4 32, MV (.agg ((leF b).map byteV).toArray), MAl (List.replicate 32 (.int .u8 0)) 32, MAl (List.replicate 32 (.int .u8 0)) 32, MT, MT]) (fun i => List.elem i [6, 7]) 8 ?_ ?_ mixed z_F z_F z_F zM ?_ ?_)))
 ·
  intro i v Y hi hf
  simp only [List.elem_eq_mem, decide_eq_true_eq, List.mem_cons, List.not_mem_nil, or_false] at hi
  rcases hi with rfl | rfl
  · obtain ⟨b, h1, h2⟩ := (show (MAl (List.replicate 32 (.int .u8 0)) 32) v Y from hf); exact ⟨b, h1, _, h2, rfl⟩
  · obtain ⟨b, h1, h2⟩ := (show (MAl (List.replicate 32 (.int .u8 0)) 32) v Y from hf); exact ⟨b, h1, _, h2, rfl⟩
 ·
  intro i o hi ho
  simp only [List.elem_eq_mem, decide_eq_true_eq, List.mem_cons, List.not_mem_nil, or_false] at hi
  rcases hi with rfl | rfl
  · cases ho; exact fun e Y => T1.allocN 32 zr_36 rfl (fun b => ⟨b, [⟨b, 0, List.replicate 32 (.int .u8 0), 32⟩], rfl, rfl, ⟨b, rfl, List.mem_cons_self ..⟩, _, List.mem_cons_self .., rfl⟩)
  · cases ho; exact fun e Y => T1.allocN 32 zr_36 rfl (fun b => ⟨b, [⟨b, 0, List.replicate 32 (.int .u8 0), 32⟩], rfl, rfl, ⟨b, rfl, List.mem_cons_self ..⟩, _, List.mem_cons_self .., rfl⟩)
 ·
  refine zm (zS 4 zE) (V1.sliceA ty_74 sz_5 rfl rfl rfl ze ze ze) ?_
  refine zm (zP 0 22 rfl zE) (V1.s2ap ty_36 rfl ze) ?_
  refine zm (zP 1 23 rfl zE) (V1.loadN (vs := ((encP R)).map byteV) one_36 sz_36 rfl (show RdN _ _ ⟨b4, 0 + 0, none⟩ _ from by rw [← (sig_front (R := R) (b := b))]; exact RdN.sub z_A) (by rw [List.length_map, encP_len])) ?_
  refine zm (zS 4 zE) (V1.sliceA ty_74 sz_5 rfl rfl rfl ze ze ze) ?_
  refine zm (zP 3 25 rfl zE) (V1.s2ap ty_36 rfl ze) ?_
  refine zm (zP 4 26 rfl zE) (V1.loadN (vs := (leF b).map byteV) one_36 sz_36 rfl (show RdN _ _ ⟨b4, 0 + 32, none⟩ _ from by rw [← (sig_back (R := R) (b := b))]; exact RdN.sub z_A) z_M) ?_
  refine zt zE (fun e_ Y_ => T1.allocN 32 zr_36 rfl (fun b9 => ?_)) ?_
  ·
   exact ⟨_, [⟨b9, 0, List.replicate 32 (.int .u8 0), 32⟩], rfl, rfl, ⟨_, rfl, List.mem_cons_self ..⟩⟩
  refine zt zE (fun e_ Y_ => T1.allocN 32 zr_36 rfl (fun b10 => ?_)) ?_
  ·
   exact ⟨_, [⟨b10, 0, List.replicate 32 (.int .u8 0), 32⟩], rfl, rfl, ⟨_, rfl, List.mem_cons_self ..⟩⟩
  exact MOps.nil
 ·
  intro e_ Y_ hp_ hs_ hq_
  obtain ⟨b9, hb9, hm9⟩ := (show (MAl (List.replicate 32 (.int .u8 0)) 32) (e_ 9) Y_ from hp_ 6 9 ze zr)
  obtain ⟨b10, hb10, hm10⟩ := (show (MAl (List.replicate 32 (.int .u8 0)) 32) (e_ 10) Y_ from hp_ 7 10 ze zr)
  have hne_0_1 : b9 ≠ b10 := hq_ 6 7 9 10 _ _ ze rfl rfl ze ze rfl rfl hb9 hb10
  refine TX.known (tr := [(2, _), (3, _), (7, _), (9, _), (10, _), (24, _), (27, _)]) (.cons ((hs_ 2 zr).trans z_C) (.cons ((hs_ 3 zr).trans z_C) (.cons ((hs_ 7 zr).trans z_C) (.cons hb9 (.cons hb10 (.cons (show MV (.agg (((encP R)).map byteV).toArray) (e_ 24) Y_ from hp_ 2 24 ze zr) (.cons (show MV (.agg ((leF b).map byteV).toArray) (e_ 27) Y_ from hp_ 5 27 ze zr) .nil))))))) ?_
  refine TX.front (X := [⟨b9, 0, List.replicate 32 (.int .u8 0), 32⟩, ⟨b10, 0, List.replicate 32 (.int .u8 0), 32⟩]) (by simp [hne_0_1]) (by intro B_ hB_; simp only [List.mem_cons, List.not_mem_nil, or_false] at hB_; rcases hB_ with rfl | rfl; exact hm9; exact hm10) ?_
  dsimp only [List.cons_append, List.nil_append]
  refine (show TX _ _ _ _ _ 2 _ _ _ from ?_)
  refine TX.oneU 8 z_F rfl rfl (T1.storeN rfl rfl sz_36 (one_bytes _) z_H (by rw [List.length_map, encP_len, List.length_replicate]) (by rw [List.length_map, encP_len]) ?_)
  refine TX.oneU 9 z_F rfl rfl (T1.storeN rfl rfl sz_36 (one_bytes _) z_H (by rw [List.length_map, leF_len, List.length_replicate]) z_M ?_)
  refine TX.done z_F ?_
  refine zs ?_
  refine z0 (V1.loadN (vs := ptC pa) one_84 sz_84 rfl (RdN.whole z_A) rfl) ?_
  refine zc (T1.call0 has_61 rfl (fun w hs => Tiny_any hpa w) (fun v hv => ?_))
  rw [decide_eq_false h8] at hv
  subst hv
  refine zs ?_
  refine z0 (V1.loadN (vs := (leF b).map byteV) one_36 sz_36 rfl (RdN.whole z_A) z_M) ?_
  refine zc (T1.callV has_62 rfl rfl (Canonical_any w0 (leF b) (leF_len b)) z_D (fun v_ hv => ?_))
  rw [leN_leF hb2, decide_eq_true hb] at hv
  obtain rfl := hv
  refine zq (V1.not rfl rfl) ?_
  refine T.cond_f rfl (zs ?_)
  refine z0 (V1.loadN (vs := ((encP R)).map byteV) one_36 sz_36 rfl (RdN.whole z_A) (by rw [List.length_map, encP_len])) ?_
  refine zc (T1.call0 has_60 rfl (fun w hs => Decode_pt R w) (fun v hv => ?_))
  obtain ⟨pr, rfl, hpr⟩ := hv
  refine zs ?_
  refine zc (T1.allocN 20 zr_84 rfl (fun b11 => ?_))
  refine zc (T1.storeN rfl rfl sz_84 (ones rfl) z_H zr zr ?_)
  refine z1 ?_
  refine T.seq (T.live (l := [(2, _), (3, _), (7, _), (9, _), (10, _), (12, _)]) zT (fun e_ => ?_))
  refine zs ?_
  refine z0 (V1.neI rfl rfl (decide_eq_false zw)) ?_
  refine TL.nil ?_
  refine T.cond_f rfl (T.skip (T.cut (σ := Nat) (l0 := [(7, _), (9, _), (10, _)]) (fun x => [(13, .pointer (some ⟨x, 0, none⟩))]) (fun x L => L = ⟨x, 0, (leF k).map byteV, 32⟩ :: ⟨b10, 0, (leF b).map byteV, 32⟩ :: ⟨b7, 0, ptC pa, 20⟩ :: ⟨b9, 0, ((encP R)).map byteV, 32⟩ :: G) (.cons z_C (.cons z_C (.cons z_C .nil))) ?_ ?_))
  ·
   refine T.drawK (fun L_ => True) mixed trivial ?_
   refine zk 0 rfl (fun _ => V1.sliceA ty_36 sz_5 rfl rfl rfl ze ze ze) ?_
   refine zk 1 rfl (fun _ => V1.sliceA ty_36 sz_5 rfl rfl rfl ze ze ze) ?_
   refine zk 3 rfl (fun _ => V1.move' z_C) ?_
   refine TK.two 2 6 z_F rfl rfl rfl rfl (T1.buildSl1 (os := [.tmp 42, .tmp 43]) (vs := [.slice (some ⟨b9, 0, none⟩) 32 32, .slice (some ⟨b3, 0, none⟩) 32 32]) ty_115 sz_44 zr_44 ze rfl (.cons z_C (.cons z_C .nil)) rfl (ones rfl) (fun b44 => ?_)) (T1.allocN 32 zr_36 rfl (fun b13 => ?_))
   ·
    refine ⟨trivial, TK.two 4 6 z_F rfl rfl rfl rfl (T1.append ty_115 kd_115 sz_44 by_44 zr_44 rfl ze ze rfl rfl (Sl.mk (b := b44) (xs := [.slice (some ⟨b9, 0, none⟩) 32 32, .slice (some ⟨b3, 0, none⟩) 32 32]) (len := 2) (cap := 2) (size := 2) rfl ze ze) (hsv _ rfl rfl _ z_D) hso 1000 (by simp only [List.length_cons, List.length_nil]; omega) ze z_E (fun s1 Ls1 hs1 => ?_)) (T1.allocN 32 zr_36 rfl (fun b13 => ?_))⟩
    ·
     refine ⟨trivial, TK.two 5 6 z_F rfl rfl rfl rfl (T1.callV has_45 rfl rfl (reduce_any w0 (Ls1 ++ ([⟨b9, 0, ((encP R)).map byteV, 32⟩, ⟨b3, 0, ((encP A)).map byteV, 32⟩] ++ Ps)) ([(encP R), (encP A)] ++ ps) ((encP R) ++ ((encP A) ++ m)) (by simp [hm]) (parts_app hs1 rfl hsl2 (two_part (part32 (encP_len R) (List.mem_cons_self ..)) (part32 (encP_len A) (List.mem_cons_of_mem _ (List.mem_cons_self ..)))) hse Inc.here (Inc.skip Inc.here) (Inc.skip (Inc.skip Inc.refl))) (len_app (fun p hp => by simp only [List.mem_cons, List.not_mem_nil, or_false] at hp; rcases hp with rfl | rfl <;> rw [encP_len] <;> decide) hlp) z_P (by simp only [List.flatten_append, hm, List.flatten_cons, List.flatten_nil, List.append_nil, List.length_append, seedP_len, sigF_len, pubL_len, encP_len]; omega) k hk) z_D (fun v_ hv => ?_)) (T1.allocN 32 zr_36 rfl (fun b13 => ?_))⟩
     ·
      obtain rfl := hv
      refine ⟨trivial, zo 6 rfl rfl (T1.allocN 32 zr_36 rfl (fun b13 => ?_))⟩
      refine ⟨trivial, zo 7 rfl rfl (T1.storeN rfl rfl sz_36 (one_bytes _) z_H z_Q z_M ?_)⟩
      exact ⟨trivial, TD.done z_F ⟨b13, _, _, trivial, (.cons rfl .nil), (.cons rfl (.cons rfl (.cons rfl .nil))), z_B, rfl⟩⟩
     ·
      refine ⟨trivial, zo 5 rfl rfl (T1.callV has_45 rfl rfl (reduce_any w0 (Ls1 ++ ([⟨b9, 0, ((encP R)).map byteV, 32⟩, ⟨b3, 0, ((encP A)).map byteV, 32⟩] ++ Ps)) ([(encP R), (encP A)] ++ ps) ((encP R) ++ ((encP A) ++ m)) (by simp [hm]) (parts_app hs1 rfl hsl2 (two_part (part32 (encP_len R) (List.mem_cons_self ..)) (part32 (encP_len A) (List.mem_cons_of_mem _ (List.mem_cons_self ..)))) hse Inc.here (Inc.skip Inc.here) (Inc.skip (Inc.skip Inc.refl))) (len_app (fun p hp => by simp only [List.mem_cons, List.not_mem_nil, or_false] at hp; rcases hp with rfl | rfl <;> rw [encP_len] <;> decide) hlp) z_P (by simp only [List.flatten_append, hm, List.flatten_cons, List.flatten_nil, List.append_nil, List.length_append, seedP_len, sigF_len, pubL_len, encP_len]; omega) k hk) z_D (fun v_ hv => ?_))⟩
      obtain rfl := hv
      refine ⟨trivial, zo 7 rfl rfl (T1.storeN rfl rfl sz_36 (one_bytes _) z_H z_Q z_M ?_)⟩
      exact ⟨trivial, TD.done z_F ⟨b13, _, _, trivial, (.cons rfl .nil), (.cons rfl (.cons rfl (.cons rfl .nil))), z_B, rfl⟩⟩
    ·
     refine ⟨trivial, zo 4 rfl rfl (T1.append ty_115 kd_115 sz_44 by_44 zr_44 rfl ze ze rfl rfl (Sl.mk (b := b44) (xs := [.slice (some ⟨b9, 0, none⟩) 32 32, .slice (some ⟨b3, 0, none⟩) 32 32]) (len := 2) (cap := 2) (size := 2) rfl ze ze) (hsv _ rfl rfl _ z_D) hso 1000 (by simp only [List.length_cons, List.length_nil]; omega) ze z_E (fun s1 Ls1 hs1 => ?_))⟩
     refine ⟨trivial, zo 5 rfl rfl (T1.callV has_45 rfl rfl (reduce_any w0 (Ls1 ++ ([⟨b9, 0, ((encP R)).map byteV, 32⟩, ⟨b3, 0, ((encP A)).map byteV, 32⟩] ++ Ps)) ([(encP R), (encP A)] ++ ps) ((encP R) ++ ((encP A) ++ m)) (by simp [hm]) (parts_app hs1 rfl hsl2 (two_part (part32 (encP_len R) (List.mem_cons_self ..)) (part32 (encP_len A) (List.mem_cons_of_mem _ (List.mem_cons_self ..)))) hse Inc.here (Inc.skip Inc.here) (Inc.skip (Inc.skip Inc.refl))) (len_app (fun p hp => by simp only [List.mem_cons, List.not_mem_nil, or_false] at hp; rcases hp with rfl | rfl <;> rw [encP_len] <;> decide) hlp) z_P (by simp only [List.flatten_append, hm, List.flatten_cons, List.flatten_nil, List.append_nil, List.length_append, seedP_len, sigF_len, pubL_len, encP_len]; omega) k hk) z_D (fun v_ hv => ?_))⟩
     obtain rfl := hv
     refine ⟨trivial, zo 7 rfl rfl (T1.storeN rfl rfl sz_36 (one_bytes _) z_H z_Q z_M ?_)⟩
     exact ⟨trivial, TD.done z_F ⟨b13, _, _, trivial, (.cons rfl .nil), (.cons rfl (.cons rfl (.cons rfl .nil))), z_B, rfl⟩⟩
   ·
    refine ⟨trivial, zo 2 rfl rfl (T1.buildSl1 (os := [.tmp 42, .tmp 43]) (vs := [.slice (some ⟨b9, 0, none⟩) 32 32, .slice (some ⟨b3, 0, none⟩) 32 32]) ty_115 sz_44 zr_44 ze rfl (.cons z_C (.cons z_C .nil)) rfl (ones rfl) (fun b44 => ?_))⟩
    refine ⟨trivial, zo 4 rfl rfl (T1.append ty_115 kd_115 sz_44 by_44 zr_44 rfl ze ze rfl rfl (Sl.mk (b := b44) (xs := [.slice (some ⟨b9, 0, none⟩) 32 32, .slice (some ⟨b3, 0, none⟩) 32 32]) (len := 2) (cap := 2) (size := 2) rfl ze ze) (hsv _ rfl rfl _ z_D) hso 1000 (by simp only [List.length_cons, List.length_nil]; omega) ze z_E (fun s1 Ls1 hs1 => ?_))⟩
    refine ⟨trivial, zo 5 rfl rfl (T1.callV has_45 rfl rfl (reduce_any w0 (Ls1 ++ ([⟨b9, 0, ((encP R)).map byteV, 32⟩, ⟨b3, 0, ((encP A)).map byteV, 32⟩] ++ Ps)) ([(encP R), (encP A)] ++ ps) ((encP R) ++ ((encP A) ++ m)) (by simp [hm]) (parts_app hs1 rfl hsl2 (two_part (part32 (encP_len R) (List.mem_cons_self ..)) (part32 (encP_len A) (List.mem_cons_of_mem _ (List.mem_cons_self ..)))) hse Inc.here (Inc.skip Inc.here) (Inc.skip (Inc.skip Inc.refl))) (len_app (fun p hp => by simp only [List.mem_cons, List.not_mem_nil, or_false] at hp; rcases hp with rfl | rfl <;> rw [encP_len] <;> decide) hlp) z_P (by simp only [List.flatten_append, hm, List.flatten_cons, List.flatten_nil, List.append_nil, List.length_append, seedP_len, sigF_len, pubL_len, encP_len]; omega) k hk) z_D (fun v_ hv => ?_))⟩
    obtain rfl := hv
    refine ⟨trivial, zo 7 rfl rfl (T1.storeN rfl rfl sz_36 (one_bytes _) z_H z_Q z_M ?_)⟩
    exact ⟨trivial, TD.done z_F ⟨b13, _, _, trivial, (.cons rfl .nil), (.cons rfl (.cons rfl (.cons rfl .nil))), z_B, rfl⟩⟩
  ·
   rintro b13 e_ L rfl
   refine T.seq (T.seq (T.drawM (FL [MV (ptV ⟨bxF, byF, oneF, mulF bxF byF⟩), MV (.agg ((leF b).map byteV).toArray), MPt (Pt.smul b Bs), MV (ptV pa), MPt (A.neg), MV (.agg ((leF k).map byteV).toArray), MPt (Pt.smul k A.neg), MPts w0 (Pt.smul b Bs) (Pt.smul k A.neg), MPt (R), MV (.agg (((encP R)).map byteV).toArray), MV (.agg (((encP R)).map byteV).toArray), MT]) 11 mixed z_F z_F (FMono.at (.cons MV.mono (.cons MV.mono (.cons MPt.mono (.cons MV.mono (.cons MPt.mono (.cons MV.mono (.cons MPt.mono (.cons MPts.mono (.cons MPt.mono (.cons MV.mono (.cons MV.mono (.cons MT.mono .nil))))))))))))) ?_ ?_))
   ·
    refine zt zE (fun _ _ => T1.call0 has_23 rfl (fun w hs => Base_exact w) (fun _ hv => ⟨_, [], rfl, rfl, hv⟩)) ?_
    refine zm (zS 10 zE) (V1.loadN (vs := (leF b).map byteV) one_36 sz_36 rfl (RdN.whole z_A) z_M) ?_
    refine zt (zP 0 48 rfl (zP 1 49 rfl zE)) (fun e_ Y_ => T1.call0 has_24 rfl (fun w hs => MulF_any base_pt b hb2 w) (fun v hv => ?_)) ?_
    ·
     exact ⟨_, [], rfl, rfl, hv⟩
    refine zm (zS 7 zE) (V1.loadN (vs := ptC pa) one_84 sz_84 rfl (RdN.whole z_A) rfl) ?_
    refine zt (zP 3 51 rfl zE) (fun e_ Y_ => T1.call0 has_64 rfl (fun w hs => PNeg_pt hpa w) (fun v hv => ?_)) ?_
    ·
     exact ⟨_, [], rfl, rfl, hv⟩
    refine zm (zS 13 zE) (V1.loadN (vs := (leF k).map byteV) one_36 sz_36 rfl (RdN.whole z_A) z_M) ?_
    refine MOps.cons (fun e_ Y_ hp_ hs_ => ?_) ?_
    ·
     obtain ⟨p52, h52, r52⟩ := (show (MPt (A.neg)) (e_ 52) Y_ from hp_ 4 52 zr zr)
     refine MOp.of (tr := [(52, _), (53, _)]) (.cons h52 (.cons (show MV (.agg ((leF k).map byteV).toArray) (e_ 53) Y_ from hp_ 5 53 zr zr) .nil)) ?_
     refine T1.call0 has_24 rfl (fun w hs => MulF_any r52 k (by rw [hk]; exact redL_lt _) w) (fun v hv => ?_)
     exact ⟨_, [], rfl, rfl, hv⟩
    refine MOps.cons (fun e_ Y_ hp_ hs_ => ?_) ?_
    ·
     obtain ⟨p50, h50, r50⟩ := (show (MPt (Pt.smul b Bs)) (e_ 50) Y_ from hp_ 2 50 zr zr)
     obtain ⟨p54, h54, r54⟩ := (show (MPt (Pt.smul k A.neg)) (e_ 54) Y_ from hp_ 6 54 zr zr)
     refine MOp.of (tr := [(50, _), (54, _)]) (.cons h50 (.cons h54 .nil)) ?_
     refine T1.buildMany (vss := [ptC p50, ptC p54]) (os := [.tmp 50, .tmp 54]) ty_168 sz_84 zr_84 ze rfl (.cons rfl (.cons rfl .nil)) rfl z_L (fun b55 => ?_)
     exact ⟨_, [⟨⟨b55, some 84⟩, 0, [p50, p54].flatMap ptC, 2 * 20⟩], rfl, rfl, ⟨p50, p54, _, _, rfl, r50, r54, zf⟩⟩
    refine MOps.cons (fun e_ Y_ hp_ hs_ => ?_) ?_
    ·
     obtain ⟨pp, pq, a55, c55, h55, g55, k55, f55⟩ := (show (MPts w0 (Pt.smul b Bs) (Pt.smul k A.neg)) (e_ 55) Y_ from hp_ 7 55 zr zr)
     refine MOp.of (tr := [(55, _)]) (.cons h55 .nil) ?_
     refine T1.callV has_63 rfl rfl (PAdd2_any w0 Y_ f55 g55 k55) z_D (fun v_ hv => ?_)
     exact ⟨_, [], rfl, rfl, by rw [← sum_zero hsum]; exact hv⟩
    refine MOps.cons (fun e_ Y_ hp_ hs_ => ?_) ?_
    ·
     obtain ⟨p56, h56, r56⟩ := (show (MPt (R)) (e_ 56) Y_ from hp_ 8 56 zr zr)
     refine MOp.of (tr := [(56, _)]) (.cons h56 .nil) ?_
     refine T1.call0 has_26 rfl (fun w hs => Encode_pt r56 w) (fun v hv => ?_)
     subst hv
     exact ⟨_, [], rfl, rfl, rfl⟩
    refine zm (zS 9 zE) (V1.loadN (vs := ((encP R)).map byteV) one_36 sz_36 rfl (RdN.whole z_A) (by rw [List.length_map, encP_len])) ?_
    refine MOps.last ?_
    exact MOps.nil
   ·
    intro e_ Y_ hp_ hs_
    refine T1.known (tr := [(57, _), (58, _)]) (.cons (hp_ 9 57 ze zr) (.cons (hp_ 10 58 ze zr) .nil)) ?_
    refine V1.t (V1.neBs (l := (encP R)) (m := (encP R)) (r := false) ty_36 ty_5 sz_5 eg_36 rfl rfl (encP_len R) (encP_len R) (decide_eq_false (fun h => h rfl))) ?_
    refine T.cond_f rfl (zs ?_)
    exact ⟨_, G, _, .cons (.tmp z_C) .nil, z_B, rfl, rfl⟩
theorem Check_made (w0 : World) (Ps : List Blk) {v : Value} (s : List UInt8) (hsl : s.length = 32) (ps : List (List UInt8)) (m : List UInt8) (hm : ps.flatten = m) (hml : m.length ≤ 1000000) (hp : PartsR w0 Ps v ps) (hpn : ps.length ≤ 8) : FnV P 28 [.agg ((pubL s).map byteV).toArray, .agg ((sigL s m).map byteV).toArray, v] w0 Ps (fun v => v = .int .i64 0) := by
 have c := clamp_spec (l := (sha T512 s).take 32) (by rw [List.length_take, sha512_len]; rfl)
 have e : clampL ((sha T512 s).take 32) = seedA s := by unfold seedA; rfl
 rw [e] at c
 have k := sigK_eq s m
 rw [pubL_eq, sigF_eq] at k
 rw [pubL_eq, sigL_eq, sigF_eq]
 exact Check_pt w0 Ps _ _ (sigS s m) (sigK s m) ps m hm hml hp hpn (tiny c.1 c.2.1 c.2.2) (sigS_lt s m) k (by rw [sigS_eq]; exact Pt.checks order _ _ _)
end Go.Proofs.YtfjedhmffccgnaaGreatDoor.S
