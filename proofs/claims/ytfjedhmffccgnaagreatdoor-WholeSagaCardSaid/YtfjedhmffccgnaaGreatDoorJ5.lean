/- A change that was made is applied. -/
import Derived.Test.YtfjedhmffccgnaaGreatDoorJ1
import Derived.Test.YtfjedhmffccgnaaGreatDoorJ3
import Derived.Test.YtfjedhmffccgnaaGreatDoorS2
namespace Go.Proofs.YtfjedhmffccgnaaGreatDoor.S
open Go.RowKit
open Ed Sh
theorem Sum256_v (w0 : World) (Ps : List Blk) {v : Value} (ps : List (List UInt8)) (hp : PartsR w0 Ps v ps) (hlen : ∀ p ∈ ps, p.length ≤ 200000000000000) (hpn : ps.length < 9223372036854775807) (hfl : ps.flatten.length < 4611686018427387904) : FnV P 29 [v] w0 Ps (fun v => v = .agg ((sha T256 ps.flatten).map byteV).toArray) :=
 FnX.v fun Qs hi => Sum256_any w0 v ps Qs (hp.more hi) hlen hpn hfl
def hashL (whole : List UInt8) : List UInt8 := sha T256 [epoL, whole].flatten
theorem hashL_len (w : List UInt8) : (hashL w).length = 32 := sha_len _ _
theorem hashL_eq (w : List UInt8) : sha T256 [epoL, w].flatten = hashL w := rfl
attribute [irreducible] hashL
section
variable {h sg ag : List UInt8} (h1 : h.length = 32) (h2 : sg.length = 32) (h3 : ag.length = 32)
include h1 in
theorem kpt0 : (([h, sg, ag].flatten.map byteV).drop 0).take 32 = h.map byteV := by
 rw [List.drop_zero, ← List.map_take, List.flatten_cons, List.take_left' h1]
include h1 h2 in
theorem kpt1 : (([h, sg, ag].flatten.map byteV).drop 32).take 32 = sg.map byteV := by
 rw [← List.map_drop, ← List.map_take, List.flatten_cons, List.drop_left' h1, List.flatten_cons, List.take_left' h2]
include h1 h2 h3 in
theorem kpt2 : (([h, sg, ag].flatten.map byteV).drop 64).take 32 = ag.map byteV := by
 rw [← List.map_drop, ← List.map_take, List.flatten_cons, List.flatten_cons, show (64 : Nat) = 32 + 32 from rfl, ← List.drop_drop, List.drop_left' h1, List.drop_left' h2, List.flatten_cons, List.take_left' h3]
end
theorem mb_sg {m : Mb} (h : m.ok) : ((mbC m).drop 2).take 32 = m.sg.map byteV := by
 unfold mbC
 rw [List.drop_succ_cons, List.drop_succ_cons, List.drop_zero, ← List.map_take, List.take_left' h.sg]
theorem ros_set {e : Nat} {h : List UInt8} {v u : Value} (hh : h.length = 32) : (rosC e h v).set 33 u = rosC e h u := by
 unfold rosC
 rw [List.set_cons_succ, List.set_append, List.length_map, hh, if_neg (by decide)]; rfl
theorem stp_fill {op by_ to : Nat} {sg ag : List UInt8} (h2 : sg.length = 32) (h3 : ag.length = 32) : FillL (stpC 0 0 0 (List.replicate 32 0) (List.replicate 32 0) (.slice none 0 0)) [(0, [u32V op]), (1, [u32V by_]), (2, [u32V to]), (3, sg.map byteV), (35, ag.map byteV)] (stpC op by_ to sg ag (.slice none 0 0)) :=
 FillL.of_segsR [[u32V op], [u32V by_], [u32V to], sg.map byteV, ag.map byteV] (by simp only [offsL, List.length_map, h2, List.length_cons, List.length_nil]) (by simp [h2, h3, stpC]) (by
  have : [[u32V op], [u32V by_], [u32V to], sg.map byteV, ag.map byteV].flatten.length = 67 := by simp [h2, h3]
  rw [this]; simp [stpC, u32V])
theorem mb_fill {to : Nat} {b : Bool} {sg ag : List UInt8} (h2 : sg.length = 32) (h3 : ag.length = 32) : FillL (mbC mbZ) [(0, [u32V to]), (1, [.bool b]), (2, sg.map byteV), (34, ag.map byteV)] (mbC ⟨to, b, sg, ag⟩) :=
 FillL.of_segs [[u32V to], [.bool b], sg.map byteV, ag.map byteV] (by simp only [offsL, List.length_map, h2, List.length_cons, List.length_nil]) (by rw [mbZ_len]; simp [h2, h3]) (by simp [mbC, u32V])
theorem ros_fill {e : Nat} {h : List UInt8} {v : Value} (h1 : h.length = 32) : FillL (rosC 0 (List.replicate 32 0) (.slice none 0 0)) [(0, [u32V e]), (1, h.map byteV), (33, [v])] (rosC e h v) :=
 FillL.of_segs [[u32V e], h.map byteV, [v]] (by simp only [offsL, List.length_map, h1, List.length_cons, List.length_nil]) (by rw [rosC_len (by rfl)]; simp [h1]) (by simp [rosC, u32V])
theorem epo_parts {w0 : World} {Ye : List Blk} {b119 b116 : Nat} {s : Value} {l : List UInt8} (hsl : Sl s (l.map byteV) 1 Ye) : PartsR w0 ([⟨b119, 0, [.slice (some ⟨b116, 0, none⟩) 12 12, s], 2⟩, ⟨b116, 0, epoL.map byteV, 12⟩] ++ Ye) (.slice (some ⟨b119, 0, none⟩) 2 2) [epoL, l] :=
 PartsR.ones (size := 2) (List.mem_cons_self ..) rfl (two_part (RowR.part (n := 12) rfl (RowR.own (size := 12) (tg := none) (List.mem_cons_of_mem _ (List.mem_cons_self ..)) rfl)) (PartR.own hsl (fun B hB => List.mem_cons_of_mem _ (List.mem_cons_of_mem _ hB))))
set_option maxRecDepth 100000 in
set_option maxHeartbeats 4000000 in
theorem Apply_any (w0 : World) (Ps : List Blk) {ms ms2 : List Mb} {a : Option Addr} {c : Nat} (hr : RowR w0 Ps 66 (.slice a ms.length c) ms.length (ms.flatMap mbC)) (hm : MbsOk ms) {e : Nat} (he : e < 1000) {h sg ag seed : List UInt8} (h1 : h.length = 32) (h2 : sg.length = 32) (h3 : ag.length = 32) (hsd : seed.length = 32) {op by_ to : Nat} (n1 : op < 4294967296) (n2 : by_ < 4294967296) (n3 : to < 4294967296) {bk bn bs : Nat} (H : FrP Ps bk bn bs h sg ag (sigL seed (chgL ++ (frB h sg ag sig0 op by_ to))) op by_ to)
 (hri : FnV P 27 [.agg (rosC e h (.slice a ms.length c)).toArray, .agg (stpC op by_ to sg ag (.slice none 0 0)).toArray] w0 Ps (fun v => v = .int .i64 0)) {m0 : Mb} (hm0 : m0.ok) {kn : Bool} (hfi : FnV P 8 [.agg (rosC e h (.slice a ms.length c)).toArray, .int .u32 (by_ : Nat)] w0 Ps (fun v => v = .tuple #[.agg (mbC m0).toArray, .bool kn])) (hkey : (if kn then m0.sg else sg) = pubL seed)
 (hop : (op = 1 ∧ ms2 = ms.take (lowN ms to) ++ ⟨to, true, sg, ag⟩ :: ms.drop (lowN ms to)) ∨ (op = 2 ∧ ms2 = ms.take (lowN ms to) ++ ⟨to, false, sg, ag⟩ :: ms.drop (lowN ms to)) ∨ (op = 3 ∧ HasM ms to ∧ ms2 = ms.eraseIdx (lowN ms to))) : FnG P 7 [.agg (rosC e h (.slice a ms.length c)).toArray, .agg (frC bk bn bs).toArray] w0 Ps [] (fun u Y => ∃ v2, u = .tuple #[.agg (rosC (e + 1) (hashL (frB h sg ag (sigL seed (chgL ++ (frB h sg ag sig0 op by_ to))) op by_ to)) (v2)).toArray, .int .i64 0] ∧ SlG (some 55) v2 (ms2.flatMap mbC) 66 Y) := by
 have hop3 : 1 ≤ op ∧ op ≤ 3 := by rcases hop with ⟨h, _⟩ | ⟨h, _⟩ | ⟨h, _⟩ <;> omega
 refine FnG.of 172 [.cell 4 40, .tmp 5] Go.Proofs.Tryz.func7 rfl rfl rfl rfl (fun G hG => ?_)
 refine zs ?_
 refine zc (T1.boxN (vs := rosC e h (.slice a ms.length c)) 34 rfl (rosC_len h1) (fun b2 => ?_))
 refine zc (T1.boxN (vs := frC bk bn bs) 5 rfl rfl (fun b3 => ?_))
 refine zc (T1.allocN 34 zr_40 rfl (fun b4 => zs ?_))
 refine z0 (V1.loadN (vs := frC bk bn bs) one_46 sz_46 rfl (RdN.whole z_A) rfl) ?_
 refine zc (T1.callC (Ps := Ps) has_20 rfl rfl (Enc_any w0 Ps H h1 h2 h3 (sigL_len _ _) n1 n2 n3) z_D (fun v_ Ye hv => ?_))
 obtain ⟨s1, rfl, hsl1⟩ := hv
 refine zs ?_
 refine zq (V1.neI (r := false) rfl rfl (decide_eq_false zw)) ?_
 refine z0 (V1.fieldAddr fl_46_0 rfl) ?_
 refine z0 (V1.load1 (v := .int .i64 6) one_3 rfl (show Rd _ _ ⟨b3, 0 + 0, none⟩ _ from Rd.at (cells := frC bk bn bs) z_A rfl)) ?_
 refine zq (V1.neI (r := false) rfl rfl ze) ?_
 refine T.cond_f rfl (T.skip (T.seq (T.live (l := [(2, _), (3, _), (4, _), (6, _)]) zT (fun e_ => ?_))))
 refine T.drawM (FL [zp b3 2, MV (.slice (some ⟨bn, 0, none⟩) 3 3), MV (.pointer (some ⟨bn, 0, none⟩)), MV (u32V op), zp b3 2, MV (.slice (some ⟨bn, 0, none⟩) 3 3), MV (.pointer (some ⟨bn, 1, none⟩)), MV (u32V by_), zp b3 2, MV (.slice (some ⟨bn, 0, none⟩) 3 3), MV (.pointer (some ⟨bn, 2, none⟩)), MV (u32V to), zp b3 1, MV (.slice (some ⟨bk, 0, none⟩) 3 3), MV (.pointer (some ⟨bk, 32, none⟩)), MV (.agg ((sg).map byteV).toArray), zp b3 1, MV (.slice (some ⟨bk, 0, none⟩) 3 3), MV (.pointer (some ⟨bk, 64, none⟩)), MV (.agg ((ag).map byteV).toArray), MV (.agg (stpC op by_ to sg ag (.slice none 0 0)).toArray), MAl (stpC 0 0 0 (List.replicate 32 0) (List.replicate 32 0) (.slice none 0 0)) 68, MT]) 22 mixed z_F z_F zM ?_ ?_
 ·
  refine zm (zS 3 zE) (V1.fieldAddr fl_46_2 rfl) ?_
  refine zm (zP 0 33 rfl zE) (V1.load1 (v := .slice (some ⟨bn, 0, none⟩) 3 3) one_42 rfl (show Rd _ _ ⟨b3, 0 + 2, none⟩ _ from Rd.at (cells := frC bk bn bs) z_A rfl)) ?_
  refine zm (zP 1 34 rfl zE) (V1.indexAddrS ty_42 sz_37 rfl rfl ze ze) ?_
  refine zm (zP 2 35 rfl zE) (V1.load1 one_37 rfl (show Rd _ _ ⟨bn, 0 + 0 * 1, none⟩ (u32V op) from Rd.at (cells := [u32V op, u32V by_, u32V to]) ((show Inc Ps _ from z_D).find H.n) rfl)) ?_
  refine zm (zS 3 zE) (V1.fieldAddr fl_46_2 rfl) ?_
  refine zm (zP 4 37 rfl zE) (V1.load1 (v := .slice (some ⟨bn, 0, none⟩) 3 3) one_42 rfl (show Rd _ _ ⟨b3, 0 + 2, none⟩ _ from Rd.at (cells := frC bk bn bs) z_A rfl)) ?_
  refine zm (zP 5 38 rfl zE) (V1.indexAddrS ty_42 sz_37 rfl rfl ze ze) ?_
  refine zm (zP 6 39 rfl zE) (V1.load1 one_37 rfl (show Rd _ _ ⟨bn, 0 + 1 * 1, none⟩ (u32V by_) from Rd.at (cells := [u32V op, u32V by_, u32V to]) ((show Inc Ps _ from z_D).find H.n) rfl)) ?_
  refine zm (zS 3 zE) (V1.fieldAddr fl_46_2 rfl) ?_
  refine zm (zP 8 41 rfl zE) (V1.load1 (v := .slice (some ⟨bn, 0, none⟩) 3 3) one_42 rfl (show Rd _ _ ⟨b3, 0 + 2, none⟩ _ from Rd.at (cells := frC bk bn bs) z_A rfl)) ?_
  refine zm (zP 9 42 rfl zE) (V1.indexAddrS ty_42 sz_37 rfl rfl ze ze) ?_
  refine zm (zP 10 43 rfl zE) (V1.load1 one_37 rfl (show Rd _ _ ⟨bn, 0 + 2 * 1, none⟩ (u32V to) from Rd.at (cells := [u32V op, u32V by_, u32V to]) ((show Inc Ps _ from z_D).find H.n) rfl)) ?_
  refine zm (zS 3 zE) (V1.fieldAddr fl_46_1 rfl) ?_
  refine zm (zP 12 45 rfl zE) (V1.load1 (v := .slice (some ⟨bk, 0, none⟩) 3 3) one_41 rfl (show Rd _ _ ⟨b3, 0 + 1, none⟩ _ from Rd.at (cells := frC bk bn bs) z_A rfl)) ?_
  refine zm (zP 13 46 rfl zE) (V1.indexAddrS ty_41 sz_36 rfl rfl ze ze) ?_
  refine zm (zP 14 47 rfl zE) (V1.loadN (vs := (sg).map byteV) one_36 sz_36 rfl (show RdN _ _ ⟨bk, 0 + 1 * 32, none⟩ _ from by rw [← kpt1 (ag := ag) h1 h2]; exact (RdN.dropK ((show Inc Ps _ from z_D).find H.k)).preK 32) (by rw [List.length_map, h2])) ?_
  refine zm (zS 3 zE) (V1.fieldAddr fl_46_1 rfl) ?_
  refine zm (zP 16 49 rfl zE) (V1.load1 (v := .slice (some ⟨bk, 0, none⟩) 3 3) one_41 rfl (show Rd _ _ ⟨b3, 0 + 1, none⟩ _ from Rd.at (cells := frC bk bn bs) z_A rfl)) ?_
  refine zm (zP 17 50 rfl zE) (V1.indexAddrS ty_41 sz_36 rfl rfl ze ze) ?_
  refine zm (zP 18 51 rfl zE) (V1.loadN (vs := (ag).map byteV) one_36 sz_36 rfl (show RdN _ _ ⟨bk, 0 + 2 * 32, none⟩ _ from by rw [← kpt2 h1 h2 h3]; exact (RdN.dropK ((show Inc Ps _ from z_D).find H.k)).preK 32) (by rw [List.length_map, h3])) ?_
  refine zm (zP 3 36 rfl (zP 7 40 rfl (zP 11 44 rfl (zP 15 48 rfl (zP 19 52 rfl zE))))) (V1.buildF (zl := stpC 0 0 0 (List.replicate 32 0) (List.replicate 32 0) (.slice none 0 0)) (out := stpC op by_ to sg ag (.slice none 0 0)) pl_51 zr_51 (.one rfl z_C rfl (.one rfl z_C rfl (.one rfl z_C rfl (.many (l := sg.map byteV) rfl z_C (by rw [List.length_map, h2]) (.many (l := ag.map byteV) rfl z_C (by rw [List.length_map, h3]) .nil))))) (stp_fill h2 h3)) ?_
  refine zt zE (fun e_ Y_ => T1.allocN 68 zr_51 rfl (fun b8 => ?_)) ?_
  ·
   exact ⟨_, [⟨b8, 0, stpC 0 0 0 (List.replicate 32 0) (List.replicate 32 0) (.slice none 0 0), 68⟩], rfl, rfl, ⟨_, rfl, List.mem_cons_self ..⟩⟩
  refine MOps.last ?_
  exact MOps.nil
 ·
  intro e_ Y_ hp_ hs_
  obtain ⟨b8, hb8, hm8⟩ := (show (MAl (stpC 0 0 0 (List.replicate 32 0) (List.replicate 32 0) (.slice none 0 0)) 68) (e_ 8) Y_ from hp_ 21 8 ze zr)
  refine T1.known (tr := [(2, _), (3, _), (4, _), (6, _), (8, _), (53, _)]) (.cons ((hs_ 2 zr).trans z_C) (.cons ((hs_ 3 zr).trans z_C) (.cons ((hs_ 4 zr).trans z_C) (.cons ((hs_ 6 zr).trans z_C) (.cons hb8 (.cons (hp_ 20 53 ze zr) .nil)))))) ?_
  refine T1.sub ?_ (List.Sublist.append (List.singleton_sublist.2 hm8) (List.Sublist.refl _))
  dsimp only [List.cons_append, List.nil_append]
  refine T1.storeN rfl rfl sz_51 (stpC_one rfl) z_H (by rw [stpC_len h2 h3]; rfl) (stpC_len h2 h3) ?_
  refine zs ?_
  refine z0 (V1.fieldAddr fl_51_0 rfl) ?_
  refine z0 (V1.load1 one_37 rfl (show Rd _ _ ⟨b8, 0 + 0, none⟩ (u32V op) from Rd.at (cells := stpC op by_ to sg ag (.slice none 0 0)) z_A rfl)) ?_
  refine zq (V1.ltI (r := false) rfl rfl (decide_eq_false zw)) ?_
  refine z0 (V1.fieldAddr fl_51_0 rfl) ?_
  refine z0 (V1.load1 one_37 rfl (show Rd _ _ ⟨b8, 0 + 0, none⟩ (u32V op) from Rd.at (cells := stpC op by_ to sg ag (.slice none 0 0)) z_A rfl)) ?_
  refine zq (V1.gtI (r := false) rfl rfl (decide_eq_false zw)) ?_
  refine T.cond_f rfl (T.skip (T.seq (T.seq (T.drawDet' mixed z_F ?_))))
  refine zd 0 (zO 3 zZ) (V1.fieldAddr fl_46_1 rfl) ?_
  refine Det.cons 1 (zN 63 0 rfl zZ) (fun e_ => .inl ⟨rfl, V1.t (V1.load1 (v := .slice (some ⟨bk, 0, none⟩) 3 3) one_41 rfl (show Rd _ _ ⟨b3, 0 + 1, none⟩ _ from Rd.at (cells := frC bk bn bs) z_A rfl)) ⟨rfl, rfl⟩⟩) ?_
  refine zd 2 (zN 64 1 rfl zZ) (V1.indexAddrS ty_41 sz_36 rfl rfl ze ze) ?_
  refine Det.cons 3 (zN 65 2 rfl zZ) (fun e_ => .inl ⟨rfl, V1.t (V1.loadN (vs := (h).map byteV) one_36 sz_36 rfl (show RdN _ _ ⟨bk, 0 + 0 * 32, none⟩ _ from by rw [← kpt0 (sg := sg) (ag := ag) h1]; exact (RdN.dropK ((show Inc Ps _ from z_D).find H.k)).preK 32) (by rw [List.length_map, h1])) ⟨rfl, rfl⟩⟩) ?_
  refine zd 4 (zO 2 zZ) (V1.fieldAddr fl_40_1 rfl) ?_
  refine Det.cons 5 (zN 67 4 rfl zZ) (fun e_ => .inl ⟨rfl, V1.t (V1.loadN (vs := (h).map byteV) one_36 sz_36 rfl (show RdN _ _ ⟨b2, 0 + 1, none⟩ _ from by rw [← ros_h (e := e) (v := .slice a ms.length c) h1]; exact RdN.sub z_A) (by rw [List.length_map, h1])) ⟨rfl, rfl⟩⟩) ?_
  refine Det.cons 6 (zN 66 3 rfl (zN 68 5 rfl zZ)) (fun e_ => .inl ⟨rfl, V1.t (V1.neBs (l := h) (m := h) (r := false) ty_36 ty_5 sz_5 eg_36 rfl rfl h1 h1 (decide_eq_false (fun h => h rfl))) ⟨rfl, rfl⟩⟩) ?_
  refine Det.nil 7 (zQ 2 (zQ 3 (zQ 4 (zQ 6 (zQ 8 (zR 69 6 rfl zW)))))) (fun e_ => ?_)
  refine T.cond_f rfl (zs ?_)
  refine z0 (V1.loadN (vs := rosC e h (.slice a ms.length c)) one_40 sz_40 rfl (RdN.whole z_A) (rosC_len h1)) ?_
  refine z0 (V1.loadN (vs := stpC op by_ to sg ag (.slice none 0 0)) one_51 sz_51 rfl (RdN.whole z_A) (stpC_len h2 h3)) ?_
  refine zc (T1.callV has_27 rfl rfl hri z_D (fun v_ hv => ?_))
  obtain rfl := hv
  refine zs ?_
  refine z0 (V1.neI rfl rfl (decide_eq_false zw)) ?_
  refine TL.nil ?_
  refine T.cond_f rfl (zs ?_)
  refine z0 (V1.fieldAddr fl_51_3 rfl) ?_
  refine z0 (V1.loadN (vs := (sg).map byteV) one_36 sz_36 rfl (show RdN _ _ ⟨b8, 0 + 3, none⟩ _ from by rw [← stp_sg (op := op) (by_ := by_) (to := to) (ag := ag) (v := .slice none 0 0) h2]; exact RdN.sub z_A) (by rw [List.length_map, h2])) ?_
  refine zc (T1.allocN 32 zr_36 rfl (fun b10 => ?_))
  refine zc (T1.storeN rfl rfl sz_36 (one_bytes _) z_H (by rw [List.length_map, h2]; rfl) (by rw [List.length_map, h2]) ?_)
  refine TL.nil ?_
  refine T.cut (σ := Unit) (l0 := [(2, _), (3, _), (4, _), (6, _), (8, _), (10, _)]) (fun x => []) (fun _ L => L = ⟨b10, 0, (pubL seed).map byteV, 32⟩ :: ⟨b8, 0, stpC op by_ to sg ag (.slice none 0 0), 68⟩ :: (Ye ++ (⟨b4, 0, rosC 0 (List.replicate 32 0) (.slice none 0 0), 34⟩ :: ⟨b3, 0, frC bk bn bs, 5⟩ :: ⟨b2, 0, rosC e h (.slice a ms.length c), 34⟩ :: G))) (.cons z_C (.cons z_C (.cons z_C (.cons z_C (.cons z_C (.cons z_C .nil)))))) ?_ ?_
  ·
   refine zs ?_
   refine z0 (V1.loadN (vs := rosC e h (.slice a ms.length c)) one_40 sz_40 rfl (RdN.whole z_A) (rosC_len h1)) ?_
   refine z0 (V1.fieldAddr fl_51_1 rfl) ?_
   refine z0 (V1.load1 one_37 rfl (show Rd _ _ ⟨b8, 0 + 1, none⟩ (u32V by_) from Rd.at (cells := stpC op by_ to sg ag (.slice none 0 0)) z_A rfl)) ?_
   refine zc (T1.callV has_8 rfl rfl hfi z_D (fun v_ hv => ?_))
   obtain rfl := hv
   refine zs ?_
   refine zc (T1.allocN 66 zr_55 rfl (fun b11 => ?_))
   refine zc (T1.storeN rfl rfl sz_55 (mbC_one m0) z_H (by rw [mbC_len hm0]; rfl) (mbC_len hm0) ?_)
   refine z1 ?_
   refine T.seq ?_
   rcases kn with _ | _
   ·
    have hk2 : sg = pubL seed := by simpa using hkey
    refine T.live (l := [(2, _), (3, _), (4, _), (6, _), (8, _), (10, _), (11, _), (12, _)]) zT (fun e_ => ?_)
    refine zs ?_
    refine T.cond_f rfl (T.skip ?_)
    exact ⟨(), ⟨b10, 0, (sg).map byteV, 32⟩ :: ⟨b8, 0, stpC op by_ to sg ag (.slice none 0 0), 68⟩ :: (Ye ++ (⟨b4, 0, rosC 0 (List.replicate 32 0) (.slice none 0 0), 34⟩ :: ⟨b3, 0, frC bk bn bs, 5⟩ :: ⟨b2, 0, rosC e h (.slice a ms.length c), 34⟩ :: G)), _, trivial, .nil, (.cons rfl (.cons rfl (.cons rfl (.cons rfl (.cons rfl (.cons rfl .nil)))))), z_B, by rw [hk2]⟩
   ·
    have hk2 : m0.sg = pubL seed := by simpa using hkey
    refine T.live (l := [(2, _), (3, _), (4, _), (6, _), (8, _), (10, _), (11, _), (12, _)]) zT (fun e_ => ?_)
    refine zs ?_
    refine T.cond_t rfl (T.region (z0 (V1.fieldAddr fl_55_2 rfl) ?_))
    refine z0 (V1.loadN (vs := (m0.sg).map byteV) one_36 sz_36 rfl (show RdN _ _ ⟨b11, 0 + 2, none⟩ _ from by rw [← mb_sg hm0]; exact RdN.sub z_A) (by rw [List.length_map, hm0.sg])) ?_
    refine zc (T1.storeN rfl rfl sz_36 (one_bytes _) z_H (by rw [List.length_map, List.length_map, hm0.sg, h2]) (by rw [List.length_map, hm0.sg]) ?_)
    refine TL.nil ?_
    exact ⟨(), ⟨b10, 0, (m0.sg).map byteV, 32⟩ :: ⟨b8, 0, stpC op by_ to sg ag (.slice none 0 0), 68⟩ :: (Ye ++ (⟨b4, 0, rosC 0 (List.replicate 32 0) (.slice none 0 0), 34⟩ :: ⟨b3, 0, frC bk bn bs, 5⟩ :: ⟨b2, 0, rosC e h (.slice a ms.length c), 34⟩ :: G)), _, trivial, .nil, (.cons rfl (.cons rfl (.cons rfl (.cons rfl (.cons rfl (.cons rfl .nil)))))), z_B, by rw [hk2]⟩
  ·
   rintro ⟨⟩ e_ L rfl
   refine zs ?_
   refine z0 (V1.loadN (vs := frC bk bn bs) one_46 sz_46 rfl (RdN.whole z_A) rfl) ?_
   refine zc (T1.allocN 5 zr_46 rfl (fun b13 => ?_))
   refine zc (T1.storeN rfl rfl sz_46 (ones rfl) z_H zr zr ?_)
   refine zs ?_
   refine z0 (V1.buildA0 ty_74 sz_5 zr_74) ?_
   refine zc (T1.buildOne (cs := sig0.map byteV) ty_43 sz_74 zr_74 ze z_C zr (fun b92 => ?_))
   refine z0 (V1.fieldAddr fl_46_3 rfl) ?_
   refine zc (T1.store1 rfl rfl sz_43 rfl z_H (Nat.zero_le _) z_K ?_)
   refine TL.nil ?_
   refine T.seq (T.live (l := [(2, _), (3, _), (4, _), (6, _), (8, _), (10, _), (13, _)]) zT (fun e_ => ?_))
   refine T.region (z0 (V1.loadN (vs := frC bk bn b92) one_46 sz_46 rfl (RdN.whole z_A) rfl) ?_)
   refine zc (T1.callC (Ps := ⟨⟨b92, some 74⟩, 0, sig0.map byteV, 64⟩ :: Ps) has_20 rfl rfl (Enc_any w0 _ (h := h) (sg := sg) (ag := ag) (sig := sig0) (op := op) (by_ := by_) (to := to) (bk := bk) (bn := bn) (bs := b92) ⟨List.mem_cons_of_mem _ H.k, List.mem_cons_of_mem _ H.n, List.mem_cons_self ..⟩ h1 h2 h3 zr n1 n2 n3) z_D (fun v_ Ye2 hv => ?_))
   obtain ⟨s2, rfl, hsl2⟩ := hv
   refine z1 ?_
   refine T.seq (T.seq (T.drawK (fun L_ => Find L_ ⟨b10, 0, (pubL seed).map byteV, 32⟩ ∧ Find L_ ⟨b3, 0, frC bk bn bs, 5⟩ ∧ Inc Ps L_) mixed ⟨z_A, z_A, z_D⟩ ?_))
   refine zk 0 rfl (fun ⟨k1_, k2_, k3_⟩ => V1.loadN (vs := (pubL seed).map byteV) one_36 sz_36 rfl (RdN.whole z_A) (by rw [List.length_map, pubL_len])) ?_
   refine zk 1 rfl (fun ⟨k1_, k2_, k3_⟩ => V1.fieldAddr fl_46_3 rfl) ?_
   refine zk 2 rfl (fun ⟨k1_, k2_, k3_⟩ => V1.load1 (v := .slice (some ⟨bs, 0, none⟩) 1 1) one_43 rfl (show Rd _ _ ⟨b3, 0 + 3, none⟩ _ from Rd.at (cells := frC bk bn bs) z_A rfl)) ?_
   refine zk 3 rfl (fun ⟨k1_, k2_, k3_⟩ => V1.indexAddrS ty_43 sz_74 rfl rfl ze ze) ?_
   refine zk 4 rfl (fun ⟨k1_, k2_, k3_⟩ => V1.loadN (vs := (sigL seed (chgL ++ (frB h sg ag sig0 op by_ to))).map byteV) one_74 sz_74 rfl (show RdN _ _ ⟨bs, 0 + 0 * 64, none⟩ _ from RdN.at0 ((show Inc Ps _ from z_D).find H.s)) (by rw [List.length_map, sigL_len])) ?_
   refine zk 7 rfl (fun ⟨k1_, k2_, k3_⟩ => V1.move' z_C) ?_
   refine zo 5 rfl rfl (T1.buildSl1 (os := (chgL.map byteV).map Operand.const) (vs := chgL.map byteV) ty_44 sz_5 zr_5 ze (by kernel_rfl) (EvsP.consts _) rfl (one_bytes _) (fun b104 => ?_))
   refine ⟨⟨z_A, z_A, z_D⟩, zo 6 rfl rfl (T1.convLit ty_44 ty_5 rfl z_H ?_)⟩
   refine ⟨⟨z_A, z_A, z_D⟩, zo 8 rfl rfl (T1.buildSl1 (os := [.tmp 105, .tmp 106]) (vs := [.slice (some ⟨b104, 0, none⟩) 13 13, s2]) ty_115 sz_44 zr_44 ze rfl (.cons z_C (.cons z_C .nil)) rfl (by intro u hu; simp only [List.mem_cons, List.not_mem_nil, or_false] at hu; rcases hu with rfl | rfl; rfl; exact hsl2.one) (fun b107 => ?_))⟩
   refine ⟨⟨z_A, z_A, z_D⟩, zo 9 rfl rfl (T1.callV has_28 rfl rfl (Check_made w0 ([⟨b107, 0, [.slice (some ⟨b104, 0, none⟩) 13 13, s2], 2⟩, ⟨b104, 0, chgL.map byteV, 13⟩] ++ Ye2) seed hsd [chgL, (frB h sg ag sig0 op by_ to)] (chgL ++ (frB h sg ag sig0 op by_ to)) (by simp) (by rw [List.length_append, frB_len h1 h2 h3 (by rfl)]; decide) (chg_parts hsl2) (Nat.le_of_ble_eq_true rfl)) z_D (fun v_ hv => ?_))⟩
   obtain rfl := hv
   refine ⟨⟨z_A, z_A, z_D⟩, zk 10 rfl (fun ⟨k1_, k2_, k3_⟩ => V1.assign' z_C) ?_⟩
   refine TD.done z_F ?_
   refine T.seq (T.live (l := [(2, _), (4, _), (6, _), (8, _), (16, _)]) zT (fun e_ => ?_))
   refine zs ?_
   refine z0 (V1.neI rfl rfl (decide_eq_false zw)) ?_
   refine TL.nil ?_
   refine T.cond_f rfl (T.skip (T.cut (σ := Nat × Value × List Blk) (l0 := [(4, _), (8, _)]) (fun x => [(17, .pointer (some ⟨x.1, 0, none⟩))]) (fun x L => L = ⟨x.1, 0, rosC (e + 1) (hashL (frB h sg ag (sigL seed (chgL ++ (frB h sg ag sig0 op by_ to))) op by_ to)) (x.2.1), 34⟩ :: ⟨b8, 0, stpC op by_ to sg ag (.slice none 0 0), 68⟩ :: (x.2.2 ++ (⟨b4, 0, rosC 0 (List.replicate 32 0) (.slice none 0 0), 34⟩ :: G)) ∧ SlG (some 55) x.2.1 (ms.flatMap mbC) 66 x.2.2) (.cons z_C (.cons z_C .nil)) ?_ ?_))
   ·
    refine T.drawK (fun L_ => Find L_ ⟨b2, 0, rosC e h (.slice a ms.length c), 34⟩) mixed z_A ?_
    refine zk 0 rfl (fun k1_ => V1.fieldAddr fl_40_0 rfl) ?_
    refine zk 1 rfl (fun k1_ => V1.load1 one_37 rfl (show Rd _ _ ⟨b2, 0 + 0, none⟩ (u32V e) from Rd.at (cells := rosC e h (.slice a ms.length c)) z_A rfl)) ?_
    refine zk 2 rfl (fun k1_ => V1.add (c := ((e + 1 : Nat) : Int)) rfl rfl (by rw [wrap_u32 _ zw (by omega)]; omega)) ?_
    refine zk 5 rfl (fun k1_ => V1.move' z_C) ?_
    refine zk 8 rfl (fun k1_ => V1.fieldAddr fl_40_2 rfl) ?_
    refine zk 9 rfl (fun k1_ => V1.load1 one_38 rfl (show Rd _ _ ⟨b2, 0 + 33, none⟩ (.slice a ms.length c) from Rd.at (cells := rosC e h (.slice a ms.length c)) z_A (ros_v h1))) ?_
    refine TK.two 3 12 z_F rfl rfl rfl rfl (T1.buildSl1 (os := (epoL.map byteV).map Operand.const) (vs := epoL.map byteV) ty_44 sz_5 zr_5 ze (by kernel_rfl) (EvsP.consts _) rfl (one_bytes _) (fun b116 => ?_)) (T1.allocN 34 zr_40 rfl (fun b17 => ?_))
    ·
     refine ⟨z_A, TK.two 4 12 z_F rfl rfl rfl rfl (T1.convLit ty_44 ty_5 rfl z_H ?_) (T1.allocN 34 zr_40 rfl (fun b17 => ?_))⟩
     ·
      refine ⟨z_A, TK.two 6 12 z_F rfl rfl rfl rfl (T1.buildSl1 (os := [.tmp 117, .tmp 118]) (vs := [.slice (some ⟨b116, 0, none⟩) 12 12, s1]) ty_115 sz_44 zr_44 ze rfl (.cons z_C (.cons z_C .nil)) rfl (by intro u hu; simp only [List.mem_cons, List.not_mem_nil, or_false] at hu; rcases hu with rfl | rfl; rfl; exact hsl1.one) (fun b119 => ?_)) (T1.allocN 34 zr_40 rfl (fun b17 => ?_))⟩
      ·
       refine ⟨z_A, TK.two 7 12 z_F rfl rfl rfl rfl (T1.callV has_29 rfl rfl (Sum256_v w0 ([⟨b119, 0, [.slice (some ⟨b116, 0, none⟩) 12 12, s1], 2⟩, ⟨b116, 0, epoL.map byteV, 12⟩] ++ Ye) [epoL, (frB h sg ag (sigL seed (chgL ++ (frB h sg ag sig0 op by_ to))) op by_ to)] (epo_parts hsl1) (by intro p hp; simp only [List.mem_cons, List.not_mem_nil, or_false] at hp; rcases hp with rfl | rfl; decide; rw [frB_len h1 h2 h3 (sigL_len _ _)]; decide) (by show 2 < _; decide) (by simp only [List.flatten_cons, List.flatten_nil, List.append_nil, List.length_append, frB_len h1 h2 h3 (sigL_len _ _)]; decide)) z_D (fun v_ hv => ?_)) (T1.allocN 34 zr_40 rfl (fun b17 => ?_))⟩
       ·
        rw [hashL_eq] at hv
        obtain rfl := hv
        refine ⟨z_A, TK.two 10 12 z_F rfl rfl rfl rfl (T1.callC has_30 rfl rfl (CloneM_any w0 Ps hr hm) z_D (fun vm Ym hsm => ?_)) (T1.allocN 34 zr_40 rfl (fun b17 => ?_))⟩
        ·
         refine ⟨z_A, zk 11 rfl (fun k1_ => V1.buildF (zl := rosC 0 (List.replicate 32 0) (.slice none 0 0)) (out := rosC (e + 1) (hashL (frB h sg ag (sigL seed (chgL ++ (frB h sg ag sig0 op by_ to))) op by_ to)) (vm)) pl_40 zr_40 (.one rfl z_C rfl (.many (l := (hashL (frB h sg ag (sigL seed (chgL ++ (frB h sg ag sig0 op by_ to))) op by_ to)).map byteV) rfl z_C (by rw [List.length_map, hashL_len]) (.one rfl z_C hsm.one .nil))) (ros_fill (hashL_len _))) ?_⟩
         refine zo 12 rfl rfl (T1.allocN 34 zr_40 rfl (fun b17 => ?_))
         refine ⟨z_A, zo 13 rfl rfl (T1.storeN rfl rfl sz_40 (rosC_one hsm.one) z_H (by rw [rosC_len (hashL_len _)]; rfl) (rosC_len (hashL_len _)) ?_)⟩
         exact ⟨z_A, TD.done z_F ⟨(b17, vm, Ym), ⟨b17, 0, rosC (e + 1) (hashL (frB h sg ag (sigL seed (chgL ++ (frB h sg ag sig0 op by_ to))) op by_ to)) (vm), 34⟩ :: ⟨b8, 0, stpC op by_ to sg ag (.slice none 0 0), 68⟩ :: (Ym ++ (⟨b4, 0, rosC 0 (List.replicate 32 0) (.slice none 0 0), 34⟩ :: G)), _, trivial, (.cons rfl .nil), (.cons rfl (.cons rfl .nil)), z_B, ⟨rfl, hsm⟩⟩⟩
        ·
         refine ⟨z_A, zo 10 rfl rfl (T1.callC has_30 rfl rfl (CloneM_any w0 Ps hr hm) z_D (fun vm Ym hsm => ?_))⟩
         refine ⟨z_A, zk 11 rfl (fun k1_ => V1.buildF (zl := rosC 0 (List.replicate 32 0) (.slice none 0 0)) (out := rosC (e + 1) (hashL (frB h sg ag (sigL seed (chgL ++ (frB h sg ag sig0 op by_ to))) op by_ to)) (vm)) pl_40 zr_40 (.one rfl z_C rfl (.many (l := (hashL (frB h sg ag (sigL seed (chgL ++ (frB h sg ag sig0 op by_ to))) op by_ to)).map byteV) rfl z_C (by rw [List.length_map, hashL_len]) (.one rfl z_C hsm.one .nil))) (ros_fill (hashL_len _))) ?_⟩
         refine zo 13 rfl rfl (T1.storeN rfl rfl sz_40 (rosC_one hsm.one) z_H (by rw [rosC_len (hashL_len _)]; rfl) (rosC_len (hashL_len _)) ?_)
         exact ⟨z_A, TD.done z_F ⟨(b17, vm, Ym), ⟨b17, 0, rosC (e + 1) (hashL (frB h sg ag (sigL seed (chgL ++ (frB h sg ag sig0 op by_ to))) op by_ to)) (vm), 34⟩ :: ⟨b8, 0, stpC op by_ to sg ag (.slice none 0 0), 68⟩ :: (Ym ++ (⟨b4, 0, rosC 0 (List.replicate 32 0) (.slice none 0 0), 34⟩ :: G)), _, trivial, (.cons rfl .nil), (.cons rfl (.cons rfl .nil)), z_B, ⟨rfl, hsm⟩⟩⟩
       ·
        refine ⟨z_A, zo 7 rfl rfl (T1.callV has_29 rfl rfl (Sum256_v w0 ([⟨b119, 0, [.slice (some ⟨b116, 0, none⟩) 12 12, s1], 2⟩, ⟨b116, 0, epoL.map byteV, 12⟩] ++ Ye) [epoL, (frB h sg ag (sigL seed (chgL ++ (frB h sg ag sig0 op by_ to))) op by_ to)] (epo_parts hsl1) (by intro p hp; simp only [List.mem_cons, List.not_mem_nil, or_false] at hp; rcases hp with rfl | rfl; decide; rw [frB_len h1 h2 h3 (sigL_len _ _)]; decide) (by show 2 < _; decide) (by simp only [List.flatten_cons, List.flatten_nil, List.append_nil, List.length_append, frB_len h1 h2 h3 (sigL_len _ _)]; decide)) z_D (fun v_ hv => ?_))⟩
        rw [hashL_eq] at hv
        obtain rfl := hv
        refine ⟨z_A, zo 10 rfl rfl (T1.callC has_30 rfl rfl (CloneM_any w0 Ps hr hm) z_D (fun vm Ym hsm => ?_))⟩
        refine ⟨z_A, zk 11 rfl (fun k1_ => V1.buildF (zl := rosC 0 (List.replicate 32 0) (.slice none 0 0)) (out := rosC (e + 1) (hashL (frB h sg ag (sigL seed (chgL ++ (frB h sg ag sig0 op by_ to))) op by_ to)) (vm)) pl_40 zr_40 (.one rfl z_C rfl (.many (l := (hashL (frB h sg ag (sigL seed (chgL ++ (frB h sg ag sig0 op by_ to))) op by_ to)).map byteV) rfl z_C (by rw [List.length_map, hashL_len]) (.one rfl z_C hsm.one .nil))) (ros_fill (hashL_len _))) ?_⟩
        refine zo 13 rfl rfl (T1.storeN rfl rfl sz_40 (rosC_one hsm.one) z_H (by rw [rosC_len (hashL_len _)]; rfl) (rosC_len (hashL_len _)) ?_)
        exact ⟨z_A, TD.done z_F ⟨(b17, vm, Ym), ⟨b17, 0, rosC (e + 1) (hashL (frB h sg ag (sigL seed (chgL ++ (frB h sg ag sig0 op by_ to))) op by_ to)) (vm), 34⟩ :: ⟨b8, 0, stpC op by_ to sg ag (.slice none 0 0), 68⟩ :: (Ym ++ (⟨b4, 0, rosC 0 (List.replicate 32 0) (.slice none 0 0), 34⟩ :: G)), _, trivial, (.cons rfl .nil), (.cons rfl (.cons rfl .nil)), z_B, ⟨rfl, hsm⟩⟩⟩
      ·
       refine ⟨z_A, zo 6 rfl rfl (T1.buildSl1 (os := [.tmp 117, .tmp 118]) (vs := [.slice (some ⟨b116, 0, none⟩) 12 12, s1]) ty_115 sz_44 zr_44 ze rfl (.cons z_C (.cons z_C .nil)) rfl (by intro u hu; simp only [List.mem_cons, List.not_mem_nil, or_false] at hu; rcases hu with rfl | rfl; rfl; exact hsl1.one) (fun b119 => ?_))⟩
       refine ⟨z_A, zo 7 rfl rfl (T1.callV has_29 rfl rfl (Sum256_v w0 ([⟨b119, 0, [.slice (some ⟨b116, 0, none⟩) 12 12, s1], 2⟩, ⟨b116, 0, epoL.map byteV, 12⟩] ++ Ye) [epoL, (frB h sg ag (sigL seed (chgL ++ (frB h sg ag sig0 op by_ to))) op by_ to)] (epo_parts hsl1) (by intro p hp; simp only [List.mem_cons, List.not_mem_nil, or_false] at hp; rcases hp with rfl | rfl; decide; rw [frB_len h1 h2 h3 (sigL_len _ _)]; decide) (by show 2 < _; decide) (by simp only [List.flatten_cons, List.flatten_nil, List.append_nil, List.length_append, frB_len h1 h2 h3 (sigL_len _ _)]; decide)) z_D (fun v_ hv => ?_))⟩
       rw [hashL_eq] at hv
       obtain rfl := hv
       refine ⟨z_A, zo 10 rfl rfl (T1.callC has_30 rfl rfl (CloneM_any w0 Ps hr hm) z_D (fun vm Ym hsm => ?_))⟩
       refine ⟨z_A, zk 11 rfl (fun k1_ => V1.buildF (zl := rosC 0 (List.replicate 32 0) (.slice none 0 0)) (out := rosC (e + 1) (hashL (frB h sg ag (sigL seed (chgL ++ (frB h sg ag sig0 op by_ to))) op by_ to)) (vm)) pl_40 zr_40 (.one rfl z_C rfl (.many (l := (hashL (frB h sg ag (sigL seed (chgL ++ (frB h sg ag sig0 op by_ to))) op by_ to)).map byteV) rfl z_C (by rw [List.length_map, hashL_len]) (.one rfl z_C hsm.one .nil))) (ros_fill (hashL_len _))) ?_⟩
       refine zo 13 rfl rfl (T1.storeN rfl rfl sz_40 (rosC_one hsm.one) z_H (by rw [rosC_len (hashL_len _)]; rfl) (rosC_len (hashL_len _)) ?_)
       exact ⟨z_A, TD.done z_F ⟨(b17, vm, Ym), ⟨b17, 0, rosC (e + 1) (hashL (frB h sg ag (sigL seed (chgL ++ (frB h sg ag sig0 op by_ to))) op by_ to)) (vm), 34⟩ :: ⟨b8, 0, stpC op by_ to sg ag (.slice none 0 0), 68⟩ :: (Ym ++ (⟨b4, 0, rosC 0 (List.replicate 32 0) (.slice none 0 0), 34⟩ :: G)), _, trivial, (.cons rfl .nil), (.cons rfl (.cons rfl .nil)), z_B, ⟨rfl, hsm⟩⟩⟩
     ·
      refine ⟨z_A, zo 4 rfl rfl (T1.convLit ty_44 ty_5 rfl z_H ?_)⟩
      refine ⟨z_A, zo 6 rfl rfl (T1.buildSl1 (os := [.tmp 117, .tmp 118]) (vs := [.slice (some ⟨b116, 0, none⟩) 12 12, s1]) ty_115 sz_44 zr_44 ze rfl (.cons z_C (.cons z_C .nil)) rfl (by intro u hu; simp only [List.mem_cons, List.not_mem_nil, or_false] at hu; rcases hu with rfl | rfl; rfl; exact hsl1.one) (fun b119 => ?_))⟩
      refine ⟨z_A, zo 7 rfl rfl (T1.callV has_29 rfl rfl (Sum256_v w0 ([⟨b119, 0, [.slice (some ⟨b116, 0, none⟩) 12 12, s1], 2⟩, ⟨b116, 0, epoL.map byteV, 12⟩] ++ Ye) [epoL, (frB h sg ag (sigL seed (chgL ++ (frB h sg ag sig0 op by_ to))) op by_ to)] (epo_parts hsl1) (by intro p hp; simp only [List.mem_cons, List.not_mem_nil, or_false] at hp; rcases hp with rfl | rfl; decide; rw [frB_len h1 h2 h3 (sigL_len _ _)]; decide) (by show 2 < _; decide) (by simp only [List.flatten_cons, List.flatten_nil, List.append_nil, List.length_append, frB_len h1 h2 h3 (sigL_len _ _)]; decide)) z_D (fun v_ hv => ?_))⟩
      rw [hashL_eq] at hv
      obtain rfl := hv
      refine ⟨z_A, zo 10 rfl rfl (T1.callC has_30 rfl rfl (CloneM_any w0 Ps hr hm) z_D (fun vm Ym hsm => ?_))⟩
      refine ⟨z_A, zk 11 rfl (fun k1_ => V1.buildF (zl := rosC 0 (List.replicate 32 0) (.slice none 0 0)) (out := rosC (e + 1) (hashL (frB h sg ag (sigL seed (chgL ++ (frB h sg ag sig0 op by_ to))) op by_ to)) (vm)) pl_40 zr_40 (.one rfl z_C rfl (.many (l := (hashL (frB h sg ag (sigL seed (chgL ++ (frB h sg ag sig0 op by_ to))) op by_ to)).map byteV) rfl z_C (by rw [List.length_map, hashL_len]) (.one rfl z_C hsm.one .nil))) (ros_fill (hashL_len _))) ?_⟩
      refine zo 13 rfl rfl (T1.storeN rfl rfl sz_40 (rosC_one hsm.one) z_H (by rw [rosC_len (hashL_len _)]; rfl) (rosC_len (hashL_len _)) ?_)
      exact ⟨z_A, TD.done z_F ⟨(b17, vm, Ym), ⟨b17, 0, rosC (e + 1) (hashL (frB h sg ag (sigL seed (chgL ++ (frB h sg ag sig0 op by_ to))) op by_ to)) (vm), 34⟩ :: ⟨b8, 0, stpC op by_ to sg ag (.slice none 0 0), 68⟩ :: (Ym ++ (⟨b4, 0, rosC 0 (List.replicate 32 0) (.slice none 0 0), 34⟩ :: G)), _, trivial, (.cons rfl .nil), (.cons rfl (.cons rfl .nil)), z_B, ⟨rfl, hsm⟩⟩⟩
    ·
     refine ⟨z_A, zo 3 rfl rfl (T1.buildSl1 (os := (epoL.map byteV).map Operand.const) (vs := epoL.map byteV) ty_44 sz_5 zr_5 ze (by kernel_rfl) (EvsP.consts _) rfl (one_bytes _) (fun b116 => ?_))⟩
     refine ⟨z_A, zo 4 rfl rfl (T1.convLit ty_44 ty_5 rfl z_H ?_)⟩
     refine ⟨z_A, zo 6 rfl rfl (T1.buildSl1 (os := [.tmp 117, .tmp 118]) (vs := [.slice (some ⟨b116, 0, none⟩) 12 12, s1]) ty_115 sz_44 zr_44 ze rfl (.cons z_C (.cons z_C .nil)) rfl (by intro u hu; simp only [List.mem_cons, List.not_mem_nil, or_false] at hu; rcases hu with rfl | rfl; rfl; exact hsl1.one) (fun b119 => ?_))⟩
     refine ⟨z_A, zo 7 rfl rfl (T1.callV has_29 rfl rfl (Sum256_v w0 ([⟨b119, 0, [.slice (some ⟨b116, 0, none⟩) 12 12, s1], 2⟩, ⟨b116, 0, epoL.map byteV, 12⟩] ++ Ye) [epoL, (frB h sg ag (sigL seed (chgL ++ (frB h sg ag sig0 op by_ to))) op by_ to)] (epo_parts hsl1) (by intro p hp; simp only [List.mem_cons, List.not_mem_nil, or_false] at hp; rcases hp with rfl | rfl; decide; rw [frB_len h1 h2 h3 (sigL_len _ _)]; decide) (by show 2 < _; decide) (by simp only [List.flatten_cons, List.flatten_nil, List.append_nil, List.length_append, frB_len h1 h2 h3 (sigL_len _ _)]; decide)) z_D (fun v_ hv => ?_))⟩
     rw [hashL_eq] at hv
     obtain rfl := hv
     refine ⟨z_A, zo 10 rfl rfl (T1.callC has_30 rfl rfl (CloneM_any w0 Ps hr hm) z_D (fun vm Ym hsm => ?_))⟩
     refine ⟨z_A, zk 11 rfl (fun k1_ => V1.buildF (zl := rosC 0 (List.replicate 32 0) (.slice none 0 0)) (out := rosC (e + 1) (hashL (frB h sg ag (sigL seed (chgL ++ (frB h sg ag sig0 op by_ to))) op by_ to)) (vm)) pl_40 zr_40 (.one rfl z_C rfl (.many (l := (hashL (frB h sg ag (sigL seed (chgL ++ (frB h sg ag sig0 op by_ to))) op by_ to)).map byteV) rfl z_C (by rw [List.length_map, hashL_len]) (.one rfl z_C hsm.one .nil))) (ros_fill (hashL_len _))) ?_⟩
     refine zo 13 rfl rfl (T1.storeN rfl rfl sz_40 (rosC_one hsm.one) z_H (by rw [rosC_len (hashL_len _)]; rfl) (rosC_len (hashL_len _)) ?_)
     exact ⟨z_A, TD.done z_F ⟨(b17, vm, Ym), ⟨b17, 0, rosC (e + 1) (hashL (frB h sg ag (sigL seed (chgL ++ (frB h sg ag sig0 op by_ to))) op by_ to)) (vm), 34⟩ :: ⟨b8, 0, stpC op by_ to sg ag (.slice none 0 0), 68⟩ :: (Ym ++ (⟨b4, 0, rosC 0 (List.replicate 32 0) (.slice none 0 0), 34⟩ :: G)), _, trivial, (.cons rfl .nil), (.cons rfl (.cons rfl .nil)), z_B, ⟨rfl, hsm⟩⟩⟩
   ·
    rintro ⟨b17, vm, Ym⟩ e_ L ⟨rfl, hsm⟩
    simp only at hsm
    dsimp only
    obtain ⟨am, cm, rfl⟩ := hsm.form2 (n := ms.length) ze (mbs_len hm.each)
    have hrm := RowR.ofSl (w0 := w0) hsm Inc.refl ze ms.length (mbs_len hm.each)
    have hlow := lowN_le ms to
    have hlen := hm.len
    refine zs ?_
    refine z0 (V1.loadN (vs := rosC (e + 1) (hashL (frB h sg ag (sigL seed (chgL ++ (frB h sg ag sig0 op by_ to))) op by_ to)) (.slice am ms.length cm)) one_40 sz_40 rfl (RdN.whole z_A) (rosC_len (hashL_len _))) ?_
    refine z0 (V1.fieldAddr fl_51_2 rfl) ?_
    refine z0 (V1.load1 one_37 rfl (show Rd _ _ ⟨b8, 0 + 2, none⟩ (u32V to) from Rd.at (cells := stpC op by_ to sg ag (.slice none 0 0)) z_A rfl)) ?_
    refine zc (T1.callV has_31 rfl rfl (place_any w0 Ym hrm hm (e + 1) (hashL (frB h sg ag (sigL seed (chgL ++ (frB h sg ag sig0 op by_ to))) op by_ to)) (hashL_len _) to n3) z_D (fun v_ hv => ?_))
    obtain rfl := hv
    refine zs ?_
    refine z0 (V1.fieldAddr fl_51_0 rfl) ?_
    refine z0 (V1.load1 one_37 rfl (show Rd _ _ ⟨b8, 0 + 0, none⟩ (u32V op) from Rd.at (cells := stpC op by_ to sg ag (.slice none 0 0)) z_A rfl)) ?_
    refine TL.nil ?_
    refine T.block (T.seq (T.seq ?_))
    rcases hop with ⟨ho, rfl⟩ | ⟨ho, rfl⟩ | ⟨ho, ht, rfl⟩
    ·
     refine T.region (zq (V1.eqI (r := true) rfl rfl (decide_eq_true zw)) ?_)
     refine T.cond_t rfl (T.skip (T.cond_t rfl (T.live (l := [(4, _), (8, _), (17, _), (18, _)]) zT (fun e_ => ?_))))
     refine T.region (z0 (V1.fieldAddr fl_40_2 rfl) ?_)
     refine zq (V1.load1 one_38 rfl (show Rd _ _ ⟨b17, 0 + 33, none⟩ (.slice am ms.length cm) from Rd.at (cells := rosC (e + 1) (hashL (frB h sg ag (sigL seed (chgL ++ (frB h sg ag sig0 op by_ to))) op by_ to)) (.slice am ms.length cm)) z_A (ros_v (hashL_len _)))) ?_
     refine z0 (V1.fieldAddr fl_51_2 rfl) ?_
     refine z0 (V1.load1 one_37 rfl (show Rd _ _ ⟨b8, 0 + 2, none⟩ (u32V to) from Rd.at (cells := stpC op by_ to sg ag (.slice none 0 0)) z_A rfl)) ?_
     refine z0 (V1.fieldAddr fl_51_0 rfl) ?_
     refine z0 (V1.load1 one_37 rfl (show Rd _ _ ⟨b8, 0 + 0, none⟩ (u32V op) from Rd.at (cells := stpC op by_ to sg ag (.slice none 0 0)) z_A rfl)) ?_
     refine z0 (V1.eqI (r := true) rfl rfl (decide_eq_true zw)) ?_
     refine z0 (V1.fieldAddr fl_51_3 rfl) ?_
     refine z0 (V1.loadN (vs := (sg).map byteV) one_36 sz_36 rfl (show RdN _ _ ⟨b8, 0 + 3, none⟩ _ from by rw [← stp_sg (op := op) (by_ := by_) (to := to) (ag := ag) (v := .slice none 0 0) h2]; exact RdN.sub z_A) (by rw [List.length_map, h2])) ?_
     refine z0 (V1.fieldAddr fl_51_4 rfl) ?_
     refine z0 (V1.loadN (vs := (ag).map byteV) one_36 sz_36 rfl (show RdN _ _ ⟨b8, 0 + 35, none⟩ _ from by rw [← stp_ag (op := op) (by_ := by_) (to := to) (v := .slice none 0 0) h2 h3]; exact RdN.sub z_A) (by rw [List.length_map, h3])) ?_
     refine z0 (V1.buildF (zl := mbC mbZ) (out := mbC ⟨to, true, sg, ag⟩) pl_55 zr_55 (.one rfl z_C rfl (.one (v := .bool true) rfl z_C rfl (.many (l := sg.map byteV) rfl z_C (by rw [List.length_map, h2]) (.many (l := ag.map byteV) rfl z_C (by rw [List.length_map, h3]) .nil)))) (mb_fill h2 h3)) ?_
     refine zc (T1.buildOne (cs := mbC ⟨to, true, sg, ag⟩) ty_38 sz_55 zr_55 ze z_C (mbC_len ⟨n3, h2, h3⟩) (fun b158 => ?_))
     refine zc (T1.callM (X := Ym) has_32 rfl rfl (InsM_any w0 [] hm (m := ⟨to, true, sg, ag⟩) ⟨n3, h2, h3⟩ (bv := b158) (i := lowN ms to) hsm hlow) z_B z_D (fun v2 Y2 hs2 => ?_))
     refine z0 (V1.fieldAddr fl_40_2 rfl) ?_
     refine zc (T1.storeE (o := 0 + 33) (v := v2) (cells := rosC (e + 1) (hashL (frB h sg ag (sigL seed (chgL ++ (frB h sg ag sig0 op by_ to))) op by_ to)) (.slice am ms.length cm)) (cells' := rosC (e + 1) (hashL (frB h sg ag (sigL seed (chgL ++ (frB h sg ag sig0 op by_ to))) op by_ to)) (v2)) rfl rfl sz_38 hs2.one (ros_set (hashL_len _)) z_H (Nat.zero_le _) (by rw [rosC_len (hashL_len _)]; decide) ?_)
     refine TL.nil ?_
     refine T.seq (T.live (l := [(4, _), (17, _)]) zT (fun e_ => ?_))
     refine T.region (z0 (V1.loadN (vs := rosC (e + 1) (hashL (frB h sg ag (sigL seed (chgL ++ (frB h sg ag sig0 op by_ to))) op by_ to)) (v2)) one_40 sz_40 rfl (RdN.whole z_A) (rosC_len (hashL_len _))) ?_)
     refine zc (T1.storeN rfl rfl sz_40 (rosC_one hs2.one) z_H (by rw [rosC_len (hashL_len _)]; rfl) (rosC_len (hashL_len _)) ?_)
     refine zs ?_
     exact ⟨_, Y2 ++ G, _, .cons (.cellN z_C one_40 sz_40 (RdN.whole z_A) (rosC_len (hashL_len _))) (.cons (.tmp z_C) .nil), z_B, Y2, rfl, v2, rfl, hs2⟩
    ·
     refine T.region (zq (V1.eqI (r := false) rfl rfl (decide_eq_false zw)) ?_)
     refine T.cond_f rfl (T.live (l := [(4, _), (8, _), (17, _), (18, _), (133, _)]) zT (fun e_ => ?_))
     refine T.region (zq (V1.eqI (r := true) rfl rfl (decide_eq_true zw)) ?_)
     refine T.cond_t rfl (T.region (z0 (V1.fieldAddr fl_40_2 rfl) ?_))
     refine zq (V1.load1 one_38 rfl (show Rd _ _ ⟨b17, 0 + 33, none⟩ (.slice am ms.length cm) from Rd.at (cells := rosC (e + 1) (hashL (frB h sg ag (sigL seed (chgL ++ (frB h sg ag sig0 op by_ to))) op by_ to)) (.slice am ms.length cm)) z_A (ros_v (hashL_len _)))) ?_
     refine z0 (V1.fieldAddr fl_51_2 rfl) ?_
     refine z0 (V1.load1 one_37 rfl (show Rd _ _ ⟨b8, 0 + 2, none⟩ (u32V to) from Rd.at (cells := stpC op by_ to sg ag (.slice none 0 0)) z_A rfl)) ?_
     refine z0 (V1.fieldAddr fl_51_0 rfl) ?_
     refine z0 (V1.load1 one_37 rfl (show Rd _ _ ⟨b8, 0 + 0, none⟩ (u32V op) from Rd.at (cells := stpC op by_ to sg ag (.slice none 0 0)) z_A rfl)) ?_
     refine z0 (V1.eqI (r := false) rfl rfl (decide_eq_false zw)) ?_
     refine z0 (V1.fieldAddr fl_51_3 rfl) ?_
     refine z0 (V1.loadN (vs := (sg).map byteV) one_36 sz_36 rfl (show RdN _ _ ⟨b8, 0 + 3, none⟩ _ from by rw [← stp_sg (op := op) (by_ := by_) (to := to) (ag := ag) (v := .slice none 0 0) h2]; exact RdN.sub z_A) (by rw [List.length_map, h2])) ?_
     refine z0 (V1.fieldAddr fl_51_4 rfl) ?_
     refine z0 (V1.loadN (vs := (ag).map byteV) one_36 sz_36 rfl (show RdN _ _ ⟨b8, 0 + 35, none⟩ _ from by rw [← stp_ag (op := op) (by_ := by_) (to := to) (v := .slice none 0 0) h2 h3]; exact RdN.sub z_A) (by rw [List.length_map, h3])) ?_
     refine z0 (V1.buildF (zl := mbC mbZ) (out := mbC ⟨to, false, sg, ag⟩) pl_55 zr_55 (.one rfl z_C rfl (.one (v := .bool false) rfl z_C rfl (.many (l := sg.map byteV) rfl z_C (by rw [List.length_map, h2]) (.many (l := ag.map byteV) rfl z_C (by rw [List.length_map, h3]) .nil)))) (mb_fill h2 h3)) ?_
     refine zc (T1.buildOne (cs := mbC ⟨to, false, sg, ag⟩) ty_38 sz_55 zr_55 ze z_C (mbC_len ⟨n3, h2, h3⟩) (fun b158 => ?_))
     refine zc (T1.callM (X := Ym) has_32 rfl rfl (InsM_any w0 [] hm (m := ⟨to, false, sg, ag⟩) ⟨n3, h2, h3⟩ (bv := b158) (i := lowN ms to) hsm hlow) z_B z_D (fun v2 Y2 hs2 => ?_))
     refine z0 (V1.fieldAddr fl_40_2 rfl) ?_
     refine zc (T1.storeE (o := 0 + 33) (v := v2) (cells := rosC (e + 1) (hashL (frB h sg ag (sigL seed (chgL ++ (frB h sg ag sig0 op by_ to))) op by_ to)) (.slice am ms.length cm)) (cells' := rosC (e + 1) (hashL (frB h sg ag (sigL seed (chgL ++ (frB h sg ag sig0 op by_ to))) op by_ to)) (v2)) rfl rfl sz_38 hs2.one (ros_set (hashL_len _)) z_H (Nat.zero_le _) (by rw [rosC_len (hashL_len _)]; decide) ?_)
     refine TL.nil ?_
     refine T.seq (T.live (l := [(4, _), (17, _)]) zT (fun e_ => ?_))
     refine T.region (z0 (V1.loadN (vs := rosC (e + 1) (hashL (frB h sg ag (sigL seed (chgL ++ (frB h sg ag sig0 op by_ to))) op by_ to)) (v2)) one_40 sz_40 rfl (RdN.whole z_A) (rosC_len (hashL_len _))) ?_)
     refine zc (T1.storeN rfl rfl sz_40 (rosC_one hs2.one) z_H (by rw [rosC_len (hashL_len _)]; rfl) (rosC_len (hashL_len _)) ?_)
     refine zs ?_
     exact ⟨_, Y2 ++ G, _, .cons (.cellN z_C one_40 sz_40 (RdN.whole z_A) (rosC_len (hashL_len _))) (.cons (.tmp z_C) .nil), z_B, Y2, rfl, v2, rfl, hs2⟩
    ·
     have hlt : lowN ms to < ms.length := by obtain ⟨k, hk1, hk2⟩ := ht; have := lowN_at hm.asc hk1; rw [hk2] at this; exact (List.getElem?_eq_some_iff.1 this).1
     refine T.region (zq (V1.eqI (r := false) rfl rfl (decide_eq_false zw)) ?_)
     refine T.cond_f rfl (T.live (l := [(4, _), (8, _), (17, _), (18, _), (133, _)]) zT (fun e_ => ?_))
     refine T.region (zq (V1.eqI (r := false) rfl rfl (decide_eq_false zw)) ?_)
     refine T.cond_f rfl (zs ?_)
     refine zq (V1.eqI (r := true) rfl rfl (decide_eq_true zw)) ?_
     refine T.cond_t rfl (T.skip (T.cond_t rfl (T.region (z0 (V1.fieldAddr fl_40_2 rfl) ?_))))
     refine zq (V1.load1 one_38 rfl (show Rd _ _ ⟨b17, 0 + 33, none⟩ (.slice am ms.length cm) from Rd.at (cells := rosC (e + 1) (hashL (frB h sg ag (sigL seed (chgL ++ (frB h sg ag sig0 op by_ to))) op by_ to)) (.slice am ms.length cm)) z_A (ros_v (hashL_len _)))) ?_
     refine z0 (V1.add (c := ((lowN ms to + 1 : Nat) : Int)) rfl rfl z_J) ?_
     refine zc (T1.callM (X := Ym) has_33 rfl rfl (DelM_any w0 hm hsm hlt) z_B z_D (fun v2 Y2 hs2 => ?_))
     refine z0 (V1.fieldAddr fl_40_2 rfl) ?_
     refine zc (T1.storeE (o := 0 + 33) (v := v2) (cells := rosC (e + 1) (hashL (frB h sg ag (sigL seed (chgL ++ (frB h sg ag sig0 op by_ to))) op by_ to)) (.slice am ms.length cm)) (cells' := rosC (e + 1) (hashL (frB h sg ag (sigL seed (chgL ++ (frB h sg ag sig0 op by_ to))) op by_ to)) (v2)) rfl rfl sz_38 hs2.one (ros_set (hashL_len _)) z_H (Nat.zero_le _) (by rw [rosC_len (hashL_len _)]; decide) ?_)
     refine zs ?_
     refine z0 (V1.loadN (vs := rosC (e + 1) (hashL (frB h sg ag (sigL seed (chgL ++ (frB h sg ag sig0 op by_ to))) op by_ to)) (v2)) one_40 sz_40 rfl (RdN.whole z_A) (rosC_len (hashL_len _))) ?_
     refine zc (T1.storeN rfl rfl sz_40 (rosC_one hs2.one) z_H (by rw [rosC_len (hashL_len _)]; rfl) (rosC_len (hashL_len _)) ?_)
     refine zs ?_
     exact ⟨_, Y2 ++ G, _, .cons (.cellN z_C one_40 sz_40 (RdN.whole z_A) (rosC_len (hashL_len _))) (.cons (.tmp z_C) .nil), z_B, Y2, rfl, v2, rfl, hs2⟩
end Go.Proofs.YtfjedhmffccgnaaGreatDoor.S
