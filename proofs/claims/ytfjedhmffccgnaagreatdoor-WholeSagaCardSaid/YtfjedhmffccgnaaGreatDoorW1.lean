/- What is thought is what is done: a saga and a roster have the same who belong to it. -/
import Derived.Test.YtfjedhmffccgnaaGreatDoorJ5
import Derived.Test.YtfjedhmffccgnaaGreatDoorG7
import Derived.Test.YtfjedhmffccgnaaGreatDoorWsSpec
namespace Go.Proofs.YtfjedhmffccgnaaGreatDoor.S
open Go.RowKit
def oneE : List (Int × Int) := [(1, 2), (3, 2)]
theorem one_code : (sgRun oneE).1 = 0 := by decide +kernel
theorem one_told : (sgOut oneE).told = [⟨2, 1, [2], 1⟩] := by decide +kernel
theorem td_rd {w0 : World} {Qs : List Blk} : ∀ {ts : List Td} {xt : List Value} {i : Nat} {u : Td}, TdsR w0 Qs ts xt → ts[i]? = some u → ∃ a c, RowR w0 Qs 1 (.slice a u.names.length c) u.names.length (u.names.map iV) ∧ ∀ (C : Ctx) (L : List Blk) (b o : Nat), RdN C L ⟨b, o, none⟩ xt → RdN C L ⟨b, o + i * 6, none⟩ [iV u.who, iV u.epoch, .slice a u.names.length c, .int .i64 1, .string (bstr (nmb sText [u.num])), .slice none 0 0]
 | [], _, _, _, _, h => by simp at h
 | x :: ts, _, 0, u, h, hu => by
  simp only [List.getElem?_cons_zero, Option.some.injEq] at hu
  subst hu
  obtain ⟨cs, rest, rfl, ⟨a, c, rfl, hr⟩, _⟩ := h
  refine ⟨a, c, hr, fun C L b o hx j v hv => ?_⟩
  have := hx j v (by rw [List.getElem?_append_left (List.getElem?_eq_some_iff.1 hv).1]; exact hv)
  rw [Nat.zero_mul, Nat.add_zero]; exact this
 | x :: ts, _, i + 1, u, h, hu => by
  obtain ⟨cs, rest, rfl, ht, hts⟩ := h
  have hl := ht.len.1
  obtain ⟨a, c, hr, hk⟩ := td_rd hts (by simpa using hu)
  refine ⟨a, c, hr, fun C L b o hx => ?_⟩
  have := hk C L b (o + 6) fun j v hv => by
   have := hx (6 + j) v (by rw [List.getElem?_append_right zw, hl, Nat.add_sub_cancel_left]; exact hv)
   rw [← Nat.add_assoc] at this; exact this
  rw [show o + (i + 1) * 6 = o + 6 + i * 6 from by omega]; exact this
theorem one_row (w0 : World) (b : Nat) : RowR w0 [⟨⟨b, some 30⟩, 0, [.int .i64 1, .int .i64 2] ++ [.int .i64 3, .int .i64 2], 2 * 2⟩] 2 (.slice (some ⟨b, 0, none⟩) oneE.length 2) oneE.length (oneE.flatMap evC) := zf
theorem stp_fill4 {op by_ to : Nat} {sg : List UInt8} (h2 : sg.length = 32) : FillL (stpC 0 0 0 (List.replicate 32 0) (List.replicate 32 0) (.slice none 0 0)) [(0, [u32V op]), (1, [u32V by_]), (2, [u32V to]), (3, sg.map byteV)] (stpC op by_ to sg keyZ (.slice none 0 0)) :=
 FillL.of_segsR [[u32V op], [u32V by_], [u32V to], sg.map byteV] (by simp only [offsL, List.length_map, List.length_cons, List.length_nil]) (by simp [h2, stpC]) (by
  have : [[u32V op], [u32V by_], [u32V to], sg.map byteV].flatten.length = 35 := by simp [h2]
  rw [this]; simp [stpC, u32V]; rfl)
theorem mbsOk_nil : MbsOk [] := ⟨by decide, fun _ h => (by cases h), List.Pairwise.nil⟩
theorem sg_few {es : List (Int × Int)} (h : (sgRun es).1 = 0) : es.length ≤ 24 ∧ sgRun es = Sg.init.runs es ∧ sgOut es = (Sg.init.runs es).2 := by
 have hn : ¬ 24 < es.length := fun hl => by unfold sgRun at h; rw [if_pos hl] at h; cases h
 have e : sgRun es = Sg.init.runs es := by unfold sgRun; rw [if_neg hn]
 exact ⟨by omega, e, by unfold sgOut; rw [if_pos h, e]⟩
theorem row_in {w0 : World} {Ps : List Blk} {ms : List Mb} {am : Option Addr} {cm : Nat} (h : RowR w0 Ps 66 (.slice am ms.length cm) ms.length (ms.flatMap mbC)) (Qs : List Blk) : RowR w0 (Ps ++ Qs) 66 (.slice am ms.length cm) ms.length (ms.flatMap mbC) := h.more Inc.here
set_option maxRecDepth 100000 in
set_option maxHeartbeats 4000000 in
theorem WholeSaga_any (w0 : World) (Ps : List Blk) {es : List (Int × Int)} {a : Option Addr} {c : Nat} (hr : RowR w0 Ps 2 (.slice a es.length c) es.length (es.flatMap evC)) : FnV P 3 [.slice a es.length c] w0 Ps (fun v => v = .bool true) := by
 refine FnV.of 207 [.tmp 2] Go.Proofs.Tryz.func3 rfl rfl rfl rfl (fun G hG => ?_)
 refine zs ?_
 refine zc (T1.callC has_4 rfl rfl (Run_us w0 Ps hr) z_D (fun v_ Y_ hY => ?_))
 obtain ⟨vt, vk, vb, Lt, Lk, Lb, Q, xt, xk, rfl, rfl, hst, hxt, hsk, hxk, hsb⟩ := hY
 simp only [List.append_assoc]
 obtain ⟨at_, ct_, rfl⟩ := hst.form2 ze hxt.of.1
 refine zs ?_
 refine z0 (V1.buildF pl_30 zr_30 (.one rfl z_C rfl (.one rfl z_C rfl .nil)) z_I) ?_
 refine z0 (V1.buildF pl_30 zr_30 (.one rfl z_C rfl (.one rfl z_C rfl .nil)) z_I) ?_
 refine zc (T1.buildTwo ty_22 sz_30 zr_30 ze z_C z_C zr zr (fun b36 => z1 ?_))
 refine T.seq (T.live (l := [(0, _), (3, _), (6, _), (7, _)]) zT (fun e_ => ?_))
 refine zs ?_
 refine zc (T1.callC (Ps := [⟨⟨b36, some 30⟩, 0, [.int .i64 1, .int .i64 2] ++ [.int .i64 3, .int .i64 2], 2 * 2⟩]) has_4 rfl rfl (Run_us w0 _ (es := oneE) (a := some ⟨b36, 0, none⟩) (c := 2) (one_row w0 b36)) z_D (fun v_ Y_ hY => ?_))
 obtain ⟨vt2, vk2, vb2, Lt2, Lk2, Lb2, Q2, xt2, xk2, rfl, rfl, hst2, hxt2, _, _, _⟩ := hY
 simp only [List.append_assoc]
 rw [one_code]
 rw [one_told] at hxt2
 have hlx := hxt2.of.1
 obtain ⟨a2, c2, rfl⟩ := hst2.form2 (n := 1) ze hlx
 have hrt2 := RowR.ofSl (w0 := w0) hst2 Inc.refl ze 1 hlx
 obtain ⟨bt2, ot2, rfl, hrd2⟩ := hrt2.at ze P
 obtain ⟨an2, cn2, hrn2, hk2⟩ := td_rd (i := 0) hxt2 rfl
 obtain ⟨bn2, on2, rfl, hrdn2⟩ := hrn2.at ze P
 refine zs ?_
 refine zq (V1.neI (r := false) rfl rfl ze) ?_
 refine z0 (V1.lenSl ty_23 rfl) ?_
 refine zq (V1.neI (r := false) rfl rfl ze) ?_
 refine z0 (V1.indexAddrS ty_23 sz_34 rfl rfl ze zw) ?_
 refine z0 (V1.fieldAddr fl_34_2 rfl) ?_
 refine z0 (V1.load1 (v := .slice (some ⟨bn2, on2, none⟩) 1 cn2) one_25 rfl (hk2 _ _ _ _ (hrd2 _ rfl rfl _ z_D) 2 _ rfl)) ?_
 refine z0 (V1.lenSl ty_25 rfl) ?_
 refine zq (V1.neI (r := false) rfl rfl ze) ?_
 refine z0 (V1.indexAddrS ty_23 sz_34 rfl rfl ze zw) ?_
 refine z0 (V1.fieldAddr fl_34_2 rfl) ?_
 refine z0 (V1.load1 (v := .slice (some ⟨bn2, on2, none⟩) 1 cn2) one_25 rfl (hk2 _ _ _ _ (hrd2 _ rfl rfl _ z_D) 2 _ rfl)) ?_
 refine z0 (V1.indexAddrS ty_25 sz_3 rfl rfl ze zw) ?_
 refine z0 (V1.load1 (v := iV 2) one_3 rfl (hrdn2 _ rfl rfl _ z_D 0 _ rfl)) ?_
 refine zq (V1.neI (r := false) rfl rfl ze) ?_
 refine T.cond_f rfl (T.skip (T.seq (T.seq (T.live (l := [(0, _), (3, _), (6, _)]) zT (fun e_ => ?_)))))
 refine zs ?_
 refine z0 (V1.neI (r := decide ((sgRun es).1 ≠ 0)) rfl rfl rfl) ?_
 rcases Classical.em ((sgRun es).1 = 0) with hc0 | hc0
 ·
  rw [decide_eq_false (by simpa using hc0)]
  obtain ⟨hes, hre, hso⟩ := sg_few hc0
  rw [hre] at hc0
  rw [hso] at hst hxt ⊢
  obtain ⟨tds, hT⟩ : ∃ u, u = (Sg.init.runs es).2.told := ⟨_, rfl⟩
  rw [← hT] at hst hxt ⊢
  have hxl := hxt.of.1
  have hrt := RowR.ofSl (w0 := w0) hst Inc.refl ze tds.length hxl
  refine TL.nil ?_
  refine T.cond_f rfl (zs ?_)
  refine z0 (V1.buildFA (out := key9.map byteV) ty_36 sz_5 zr_36 (.one rfl z_C rfl .nil) z_I) ?_
  refine zc (T1.allocN 32 zr_36 rfl (fun b12 => ?_))
  refine zc (T1.storeN rfl rfl sz_36 (one_bytes _) z_H zr zr ?_)
  refine zs ?_
  refine zc (T1.allocN (zl := rosC 0 keyZ (.slice none 0 0)) 34 zr_40 rfl (fun b13 => ?_))
  refine TL.nil ?_
  refine T.cut (σ := Nat × Nat × Nat × Nat × List Blk) (l0 := [(0, _), (3, _), (12, _), (13, _)]) (fun x => [(14, .pointer (some ⟨x.1, 0, none⟩)), (15, .int .i64 0)]) (fun x L => L = ⟨x.1, 0, frC x.2.1 x.2.2.1 x.2.2.2.1, 5⟩ :: (x.2.2.2.2 ++ (⟨b13, 0, rosC (0) (keyZ) ((.slice none 0 0)), 34⟩ :: ⟨b12, 0, key9.map byteV, 32⟩ :: (Lt ++ (Q ++ G)))) ∧ FrP x.2.2.2.2 x.2.1 x.2.2.1 x.2.2.2.1 keyZ (pubL key9) keyZ (sigL key9 (chgL ++ frB keyZ (pubL key9) keyZ sig0 1 9 9)) 1 9 9) (.cons z_C (.cons z_C (.cons z_C (.cons z_C .nil)))) ?_ ?_
  ·
   refine T.drawK (fun L_ => Find L_ ⟨b13, 0, rosC (0) (keyZ) ((.slice none 0 0)), 34⟩ ∧ Find L_ ⟨b12, 0, key9.map byteV, 32⟩) mixed ⟨z_A, z_A⟩ ?_
   refine zk 0 rfl (fun ⟨k1_, k2_⟩ => V1.loadN (vs := rosC 0 keyZ (.slice none 0 0)) one_40 sz_40 rfl (RdN.whole z_A) rfl) ?_
   refine zk 1 rfl (fun ⟨k1_, k2_⟩ => V1.loadN (vs := key9.map byteV) one_36 sz_36 rfl (RdN.whole z_A) rfl) ?_
   refine zk 2 rfl (fun ⟨k1_, k2_⟩ => V1.loadN (vs := key9.map byteV) one_36 sz_36 rfl (RdN.whole z_A) rfl) ?_
   refine TK.two 3 9 z_F rfl rfl rfl rfl (T1.callV has_6 rfl rfl (Public_any w0 key9 rfl) z_D (fun v_ hv => ?_)) (T1.allocN 5 zr_46 rfl (fun b14 => ?_))
   ·
    obtain rfl := hv
    refine ⟨⟨z_A, z_A⟩, zk 4 rfl (fun ⟨k1_, k2_⟩ => V1.buildF (zl := stpC 0 0 0 (List.replicate 32 0) (List.replicate 32 0) (.slice none 0 0)) (out := stpC 1 9 9 (pubL key9) keyZ (.slice none 0 0)) pl_51 zr_51 (.one rfl z_C rfl (.one rfl z_C rfl (.one rfl z_C rfl (.many (l := (pubL key9).map byteV) rfl z_C (by rw [List.length_map, (pubL_len _)]) .nil)))) (stp_fill4 (pubL_len _))) ?_⟩
    refine TK.two 5 9 z_F rfl rfl rfl rfl (T1.callC has_5 rfl rfl (RMake_any w0 (0) (v := (.slice none 0 0)) (h := keyZ) (sg := (pubL key9)) (ag := keyZ) (seed := key9) (op := 1) (by_ := 9) (to := 9) rfl (pubL_len _) rfl rfl ze ze zw rfl) z_D (fun v_ Yf hv => ?_)) (T1.allocN 5 zr_46 rfl (fun b14 => ?_))
    ·
     obtain ⟨bk, bn, bs, rfl, hF⟩ := hv
     refine ⟨⟨z_A, z_A⟩, zk 6 rfl (fun ⟨k1_, k2_⟩ => V1.move' z_C) ?_⟩
     refine zk 7 rfl (fun ⟨k1_, k2_⟩ => V1.extract rfl zr) ?_
     refine zk 8 rfl (fun ⟨k1_, k2_⟩ => V1.extract rfl zr) ?_
     refine zo 9 rfl rfl (T1.allocN 5 zr_46 rfl (fun b14 => ?_))
     refine ⟨⟨z_A, z_A⟩, zo 10 rfl rfl (T1.storeN rfl rfl sz_46 (ones rfl) z_H zr zr ?_)⟩
     refine ⟨⟨z_A, z_A⟩, zk 11 rfl (fun ⟨k1_, k2_⟩ => V1.assign' z_C) ?_⟩
     exact TD.done z_F ⟨(b14, bk, bn, bs, Yf), ⟨b14, 0, frC bk bn bs, 5⟩ :: (Yf ++ (⟨b13, 0, rosC (0) (keyZ) ((.slice none 0 0)), 34⟩ :: ⟨b12, 0, key9.map byteV, 32⟩ :: (Lt ++ (Q ++ G)))), _, trivial, (.cons rfl (.cons rfl .nil)), (.cons rfl (.cons rfl (.cons rfl (.cons rfl .nil)))), z_B, ⟨rfl, hF⟩⟩
    ·
     refine ⟨⟨z_A, z_A⟩, zo 5 rfl rfl (T1.callC has_5 rfl rfl (RMake_any w0 (0) (v := (.slice none 0 0)) (h := keyZ) (sg := (pubL key9)) (ag := keyZ) (seed := key9) (op := 1) (by_ := 9) (to := 9) rfl (pubL_len _) rfl rfl ze ze zw rfl) z_D (fun v_ Yf hv => ?_))⟩
     obtain ⟨bk, bn, bs, rfl, hF⟩ := hv
     refine ⟨⟨z_A, z_A⟩, zk 6 rfl (fun ⟨k1_, k2_⟩ => V1.move' z_C) ?_⟩
     refine zk 7 rfl (fun ⟨k1_, k2_⟩ => V1.extract rfl zr) ?_
     refine zk 8 rfl (fun ⟨k1_, k2_⟩ => V1.extract rfl zr) ?_
     refine zo 10 rfl rfl (T1.storeN rfl rfl sz_46 (ones rfl) z_H zr zr ?_)
     refine ⟨⟨z_A, z_A⟩, zk 11 rfl (fun ⟨k1_, k2_⟩ => V1.assign' z_C) ?_⟩
     exact TD.done z_F ⟨(b14, bk, bn, bs, Yf), ⟨b14, 0, frC bk bn bs, 5⟩ :: (Yf ++ (⟨b13, 0, rosC (0) (keyZ) ((.slice none 0 0)), 34⟩ :: ⟨b12, 0, key9.map byteV, 32⟩ :: (Lt ++ (Q ++ G)))), _, trivial, (.cons rfl (.cons rfl .nil)), (.cons rfl (.cons rfl (.cons rfl (.cons rfl .nil)))), z_B, ⟨rfl, hF⟩⟩
   ·
    refine ⟨⟨z_A, z_A⟩, zo 3 rfl rfl (T1.callV has_6 rfl rfl (Public_any w0 key9 rfl) z_D (fun v_ hv => ?_))⟩
    obtain rfl := hv
    refine ⟨⟨z_A, z_A⟩, zk 4 rfl (fun ⟨k1_, k2_⟩ => V1.buildF (zl := stpC 0 0 0 (List.replicate 32 0) (List.replicate 32 0) (.slice none 0 0)) (out := stpC 1 9 9 (pubL key9) keyZ (.slice none 0 0)) pl_51 zr_51 (.one rfl z_C rfl (.one rfl z_C rfl (.one rfl z_C rfl (.many (l := (pubL key9).map byteV) rfl z_C (by rw [List.length_map, (pubL_len _)]) .nil)))) (stp_fill4 (pubL_len _))) ?_⟩
    refine zo 5 rfl rfl (T1.callC has_5 rfl rfl (RMake_any w0 (0) (v := (.slice none 0 0)) (h := keyZ) (sg := (pubL key9)) (ag := keyZ) (seed := key9) (op := 1) (by_ := 9) (to := 9) rfl (pubL_len _) rfl rfl ze ze zw rfl) z_D (fun v_ Yf hv => ?_))
    obtain ⟨bk, bn, bs, rfl, hF⟩ := hv
    refine ⟨⟨z_A, z_A⟩, zk 6 rfl (fun ⟨k1_, k2_⟩ => V1.move' z_C) ?_⟩
    refine zk 7 rfl (fun ⟨k1_, k2_⟩ => V1.extract rfl zr) ?_
    refine zk 8 rfl (fun ⟨k1_, k2_⟩ => V1.extract rfl zr) ?_
    refine zo 10 rfl rfl (T1.storeN rfl rfl sz_46 (ones rfl) z_H zr zr ?_)
    refine ⟨⟨z_A, z_A⟩, zk 11 rfl (fun ⟨k1_, k2_⟩ => V1.assign' z_C) ?_⟩
    exact TD.done z_F ⟨(b14, bk, bn, bs, Yf), ⟨b14, 0, frC bk bn bs, 5⟩ :: (Yf ++ (⟨b13, 0, rosC (0) (keyZ) ((.slice none 0 0)), 34⟩ :: ⟨b12, 0, key9.map byteV, 32⟩ :: (Lt ++ (Q ++ G)))), _, trivial, (.cons rfl (.cons rfl .nil)), (.cons rfl (.cons rfl (.cons rfl (.cons rfl .nil)))), z_B, ⟨rfl, hF⟩⟩
  ·
   rintro ⟨b14, bk, bn, bs, Yf⟩ e_ L ⟨rfl, hF⟩
   simp only at hF
   dsimp only
   refine zs ?_
   refine z0 (V1.neI (r := false) rfl rfl ze) ?_
   refine TL.nil ?_
   refine T.cond_f rfl (zs ?_)
   refine z0 (V1.loadN (vs := rosC 0 keyZ (.slice none 0 0)) one_40 sz_40 rfl (RdN.whole z_A) rfl) ?_
   refine z0 (V1.loadN (vs := frC bk bn bs) one_46 sz_46 rfl (RdN.whole z_A) rfl) ?_
   refine zc (T1.callC (Ps := Yf) has_7 rfl rfl (Apply_any w0 Yf (ms := []) (ms2 := mbsW (pubL key9) []) (a := none) (c := 0) RowR.nil mbsOk_nil (e := 0) ze (h := keyZ) (sg := (pubL key9)) (ag := keyZ) (seed := key9) rfl (pubL_len _) rfl rfl (op := 1) (by_ := 9) (to := 9) ze ze ze hF (rights_new w0 Yf RowR.nil mbsOk_nil rfl (pubL_len _) rfl rfl ze ze rfl rfl) mbZ_ok (FindM_f w0 Yf RowR.nil mbsOk_nil 0 keyZ rfl 9 ze (hasM_nil 9)) (kn := false) rfl (.inl ⟨rfl, (mbsW_new _).symm⟩)) z_D (fun v_ Ya hv => ?_))
   obtain ⟨v2, rfl, hs2⟩ := hv
   refine zs ?_
   refine zc (T1.storeN rfl rfl sz_40 (rosC_one hs2.one) z_H (by rw [rosC_len (hashL_len _), rosC_len rfl]) (rosC_len (hashL_len _)) ?_)
   refine z1 ?_
   refine T.seq (T.live (l := [(0, _), (3, _), (12, _), (13, _), (15, _)]) zT (fun e_ => ?_))
   refine zs ?_
   refine z0 (V1.neI (r := false) rfl rfl ze) ?_
   refine TL.nil ?_
   refine T.cond_f rfl (zs ?_)
   refine zq1 (V1.lenSl ty_22 rfl) ?_
   refine T.block (T.loopL (σ := Nat × Nat) (l0 := [(3, _), (12, _), (13, _), (93, _), (94, _)]) (fun x => [(95, .int .i64 (x.1 : Nat)), (16, .int .i64 (x.2 : Nat))]) (fun x L => ∃ s h vm Ym, L = (⟨b13, 0, rosC (s.epoch + 1) (h) (vm), 34⟩ : Blk) :: (Ym ++ (⟨b12, 0, key9.map byteV, 32⟩ :: (Lt ++ (Q ++ G)))) ∧ x.1 ≤ es.length ∧ h.length = 32 ∧ SlG (some 55) vm ((mbsW (pubL key9) s.names).flatMap mbC) 66 Ym ∧ SgInv x.1 s ∧ Sg.init.runs es = s.runs (es.drop x.1) ∧ x.2 = s.told.length) (fun x => es.length - x.1) (0, 0) (.cons rfl (.cons rfl .nil)) zT z_B (⟨Sg.init, _, v2, Ya, rfl, Nat.zero_le _, hashL_len _, hs2, SgInv.start, rfl, rfl⟩) ?_)
   rintro ⟨i, at0⟩ e_ L ⟨s, h, vm, Ym, rfl, hi, hh, hsm, hI, hrun, hat⟩
   simp only at hi hI hrun hat
   dsimp only
   have hnm := nm_ok hI
   have hok := mbsW_ok (pubL_len key9) hnm.1 hnm.2
   have hml := mbs_len hok.each
   obtain ⟨am, cm, rfl⟩ := hsm.form2 (n := (mbsW (pubL key9) s.names).length) ze hml
   have hrm := RowR.ofSl (w0 := w0) hsm Inc.refl ze (mbsW (pubL key9) s.names).length hml
   have hlen := asc_len hnm.1 hnm.2
   have hep := hI.ep
   have hmle := mbsW_len (pubL key9) s.names
   refine zs ?_
   refine zc (T1.ltI_split rfl rfl (fun h18 => ?_) (fun h18 => ?_))
   ·
    have hil : i < es.length := by omega
    obtain ⟨⟨k, w⟩, hx0⟩ : ∃ x, es[i]? = some x := ⟨_, List.getElem?_eq_getElem hil⟩
    rw [drop_ev hx0] at hrun
    have hst0 : (s.step k w).1 = 0 := runs_zero (by rw [← hrun]; exact hc0)
    have hnext := hrun.trans (runs_next hst0)
    have hI2 := hI.step k w
    obtain ⟨hw6, hk4⟩ := step_zero hst0
    obtain ⟨w1, rfl⟩ : ∃ w1 : Nat, w = w1 := ⟨w.toNat, by omega⟩
    have hw : 1 ≤ w1 ∧ w1 ≤ 6 := by omega
    obtain ⟨be, oe, rfl, hrde⟩ := flatK_at evC 2 (fun _ _ => rfl) hr zw P
    refine zs ?_
    refine T.cond_t rfl (zs ?_)
    refine z0 (V1.indexAddrS ty_22 sz_30 rfl rfl zw zw) ?_
    refine z0 (V1.loadN (vs := evC (k, (w1 : Int))) one_30 sz_30 rfl (hrde i _ hx0 _ rfl rfl _ z_D) rfl) ?_
    refine zc (T1.allocN 2 zr_30 rfl (fun b18 => ?_))
    refine zc (T1.storeN rfl rfl sz_30 (ones rfl) z_H zr zr ?_)
    refine zs ?_
    refine z0 (V1.loadN (vs := rosC (s.epoch + 1) h (.slice am (mbsW (pubL key9) s.names).length cm)) one_40 sz_40 rfl (RdN.whole z_A) (rosC_len hh)) ?_
    refine z0 (V1.fieldAddr fl_30_1 rfl) ?_
    refine z0 (V1.load1 (v := .int .i64 (w1 : Nat)) one_3 rfl (show Rd _ _ ⟨b18, 0 + 1, none⟩ _ from Rd.at (cells := evC (k, (w1 : Int))) z_A rfl)) ?_
    refine z0 (V1.conv (c := ((w1 : Nat) : Int)) ty_3 ty_37 rfl (wrap_u32 _ zw zw)) ?_
    rcases Classical.em (w1 ∈ s.names) with hin | hin
    ·
     have hmo := hok.each _ (mbsW_mem (p := (pubL key9)) hin)
     refine zc (T1.callV has_8 rfl rfl (FindM_t w0 Ym hrm hok (s.epoch + 1) h hh (mbsW_mem hin) w1 (mbW_name _ w1)) z_D (fun v_ hv => ?_))
     obtain rfl := hv
     refine zs ?_
     refine zc (T1.allocN 66 zr_55 rfl (fun b19 => ?_))
     refine zc (T1.storeN rfl rfl sz_55 (mbC_one _) z_H (by rw [mbC_len hmo]; rfl) (mbC_len hmo) ?_)
     refine z1 ?_
     refine T.block (T.seq (T.seq ?_))
     rcases (show k = 1 ∨ k = 2 ∨ k = 3 ∨ k = 4 by omega) with hk | hk | hk | hk
     ·
      refine T.live (l := [(3, _), (12, _), (13, _), (16, _), (18, _), (20, _), (93, _), (94, _), (95, _)]) zT (fun e_ => ?_)
      refine T.region (z0 (V1.fieldAddr fl_30_0 rfl) ?_)
      refine z0 (V1.load1 (v := .int .i64 k) one_3 rfl (show Rd _ _ ⟨b18, 0 + 0, none⟩ _ from Rd.at (cells := evC (k, (w1 : Int))) z_A rfl)) ?_
      refine zq (V1.eqI (r := true) rfl rfl (decide_eq_true zw)) ?_
      refine zq (V1.not rfl rfl) ?_
      refine T.cond_f rfl (T.region (z0 (V1.fieldAddr fl_30_0 rfl) ?_))
      refine z0 (V1.load1 (v := .int .i64 k) one_3 rfl (show Rd _ _ ⟨b18, 0 + 0, none⟩ _ from Rd.at (cells := evC (k, (w1 : Int))) z_A rfl)) ?_
      refine zq (V1.eqI (r := false) rfl rfl (decide_eq_false zw)) ?_
      refine TL.no rfl ?_
      refine zs ?_
      refine T.cond_f rfl (T.seq (T.live (l := [(3, _), (12, _), (13, _), (16, _), (18, _), (20, _), (93, _), (94, _), (95, _)]) zT (fun e_ => ?_)))
      refine T.region (z0 (V1.fieldAddr fl_30_0 rfl) ?_)
      refine z0 (V1.load1 (v := .int .i64 k) one_3 rfl (show Rd _ _ ⟨b18, 0 + 0, none⟩ _ from Rd.at (cells := evC (k, (w1 : Int))) z_A rfl)) ?_
      refine zq (V1.eqI (r := false) rfl rfl (decide_eq_false zw)) ?_
      refine TL.no rfl ?_
      refine zs ?_
      refine T.cond_f rfl (zs ?_)
      refine zq1 (V1.add (c := ((i + 1 : Nat) : Int)) rfl rfl z_J) ?_
      rw [step_none hw zw (fun h => hin) (fun h => absurd h zw)] at hnext hI2
      exact ⟨(i + 1, at0), ⟨b13, 0, rosC (s.epoch + 1) (h) (.slice am (mbsW (pubL key9) s.names).length cm), 34⟩ :: (Ym ++ (⟨b12, 0, key9.map byteV, 32⟩ :: (Lt ++ (Q ++ G)))), _, z_N, (.cons rfl (.cons rfl .nil)), (.cons rfl (.cons rfl (.cons rfl (.cons rfl (.cons rfl .nil))))), z_B, ⟨s, h, _, Ym, rfl, by simp only; omega, hh, hsm, hI2, hnext, hat⟩⟩
     ·
      refine T.live (l := [(3, _), (12, _), (13, _), (16, _), (18, _), (20, _), (93, _), (94, _), (95, _)]) zT (fun e_ => ?_)
      refine T.region (z0 (V1.fieldAddr fl_30_0 rfl) ?_)
      refine z0 (V1.load1 (v := .int .i64 k) one_3 rfl (show Rd _ _ ⟨b18, 0 + 0, none⟩ _ from Rd.at (cells := evC (k, (w1 : Int))) z_A rfl)) ?_
      refine zq (V1.eqI (r := false) rfl rfl (decide_eq_false zw)) ?_
      refine TL.no rfl ?_
      refine TL.no rfl ?_
      refine zs ?_
      refine T.cond_f rfl (T.region (z0 (V1.fieldAddr fl_30_0 rfl) ?_))
      refine z0 (V1.load1 (v := .int .i64 k) one_3 rfl (show Rd _ _ ⟨b18, 0 + 0, none⟩ _ from Rd.at (cells := evC (k, (w1 : Int))) z_A rfl)) ?_
      refine zq (V1.eqI (r := true) rfl rfl (decide_eq_true zw)) ?_
      refine T.cond_t rfl (T.seq (T.live (l := [(3, _), (12, _), (13, _), (16, _), (18, _), (20, _), (93, _), (94, _), (95, _)]) zT (fun e_ => ?_)))
      refine zs ?_
      refine T.cond_t rfl (zs ?_)
      refine z0 (V1.loadN (vs := rosC (s.epoch + 1) h (.slice am (mbsW (pubL key9) s.names).length cm)) one_40 sz_40 rfl (RdN.whole z_A) (rosC_len hh)) ?_
      refine zq (V1.loadN (vs := key9.map byteV) one_36 sz_36 rfl (RdN.whole z_A) rfl) ?_
      refine z0 (V1.fieldAddr fl_30_1 rfl) ?_
      refine z0 (V1.load1 (v := .int .i64 (w1 : Nat)) one_3 rfl (show Rd _ _ ⟨b18, 0 + 1, none⟩ _ from Rd.at (cells := evC (k, (w1 : Int))) z_A rfl)) ?_
      refine z0 (V1.conv (c := ((w1 : Nat) : Int)) ty_3 ty_37 rfl (wrap_u32 _ zw zw)) ?_
      refine z0 (V1.buildFA (out := key1.map byteV) ty_36 sz_5 zr_36 (.one rfl z_C rfl .nil) z_I) ?_
      refine z0 (V1.buildF (zl := stpC 0 0 0 (List.replicate 32 0) (List.replicate 32 0) (.slice none 0 0)) (out := stpC 3 9 w1 key1 keyZ (.slice none 0 0)) pl_51 zr_51 (.one rfl z_C rfl (.one rfl z_C rfl (.one rfl z_C rfl (.many (l := key1.map byteV) rfl z_C (by rw [List.length_map, (show key1.length = 32 from rfl)]) .nil)))) (stp_fill4 (show key1.length = 32 from rfl))) ?_
      refine zc (T1.callC has_5 rfl rfl (RMake_any w0 (s.epoch + 1) (v := .slice am (mbsW (pubL key9) s.names).length cm) (h := h) (sg := key1) (ag := keyZ) (seed := key9) (op := 3) (by_ := 9) (to := w1) hh rfl rfl rfl ze ze zw rfl) z_D (fun v_ Yf hv => ?_))
      obtain ⟨bk, bn, bs, rfl, hF⟩ := hv
      refine zs ?_
      refine zc (T1.allocN 5 zr_46 rfl (fun b22 => ?_))
      refine zc (T1.storeN rfl rfl sz_46 (ones rfl) z_H zr zr ?_)
      refine z1 ?_
      refine T.seq (T.seq (T.live (l := [(3, _), (12, _), (13, _), (16, _), (22, _), (23, _), (93, _), (94, _), (95, _)]) zT (fun e_ => ?_)))
      refine zs ?_
      refine z0 (V1.neI (r := false) rfl rfl ze) ?_
      refine TL.nil ?_
      refine T.cond_f rfl (zs ?_)
      refine z0 (V1.loadN (vs := rosC (s.epoch + 1) h (.slice am (mbsW (pubL key9) s.names).length cm)) one_40 sz_40 rfl (RdN.whole z_A) (rosC_len hh)) ?_
      refine z0 (V1.loadN (vs := frC bk bn bs) one_46 sz_46 rfl (RdN.whole z_A) rfl) ?_
      refine zc (T1.callC (Ps := (Ym ++ Yf)) has_7 rfl rfl (Apply_any w0 (Ym ++ Yf) (ms := (mbsW (pubL key9) s.names)) (ms2 := mbsW (pubL key9) (delN s.names w1)) (a := am) (c := cm) (row_in hrm Yf) hok (e := s.epoch + 1) zw (h := h) (sg := key1) (ag := keyZ) (seed := key9) hh rfl rfl rfl (op := 3) (by_ := 9) (to := w1) ze ze zw (hF.more (Inc.skip Inc.refl)) (rights_del w0 (Ym ++ Yf) (row_in hrm Yf) hok hh rfl rfl rfl ze zw (mbsW_nine (pubL key9) s.names) (mbW_name _ 9) rfl (mbsW_mem hin) (mbW_name _ w1) (by rw [mbW_in hw.2])) (hok.each _ (mbsW_nine (pubL key9) s.names)) (FindM_t w0 (Ym ++ Yf) (row_in hrm Yf) hok (s.epoch + 1) h hh (mbsW_nine (pubL key9) s.names) 9 (mbW_name _ 9)) (kn := true) rfl (.inr (.inr ⟨rfl, (mbsW_has hw.2).2 hin, (mbs_rem hnm.1 hnm.2 hw hin).symm⟩))) z_D (fun v_ Ya hv => ?_))
      obtain ⟨v2, rfl, hs2⟩ := hv
      refine zs ?_
      refine zc (T1.storeN rfl rfl sz_40 (rosC_one hs2.one) z_H (by rw [rosC_len (hashL_len _), rosC_len hh]) (rosC_len (hashL_len _)) ?_)
      refine zs ?_
      refine z0 (V1.neI (r := false) rfl rfl ze) ?_
      refine TL.nil ?_
      refine T.cond_f rfl (zs ?_)
      refine zq1 (V1.add (c := ((i + 1 : Nat) : Int)) rfl rfl z_J) ?_
      rw [step_del hw hk hin] at hnext hI2
      exact ⟨(i + 1, at0), ⟨b13, 0, rosC (s.epoch + 1 + 1) (hashL (frB h key1 keyZ (sigL key9 (chgL ++ frB h key1 keyZ sig0 3 9 w1)) 3 9 w1)) (v2), 34⟩ :: (Ya ++ (⟨b12, 0, key9.map byteV, 32⟩ :: (Lt ++ (Q ++ G)))), _, z_N, (.cons rfl (.cons rfl .nil)), (.cons rfl (.cons rfl (.cons rfl (.cons rfl (.cons rfl .nil))))), z_B, ⟨s.turn (delN s.names w1), _, v2, Ya, rfl, by simp only; omega, hashL_len _, hs2, hI2, hnext, hat⟩⟩
     ·
      refine T.live (l := [(3, _), (12, _), (13, _), (16, _), (18, _), (20, _), (93, _), (94, _), (95, _)]) zT (fun e_ => ?_)
      refine T.region (z0 (V1.fieldAddr fl_30_0 rfl) ?_)
      refine z0 (V1.load1 (v := .int .i64 k) one_3 rfl (show Rd _ _ ⟨b18, 0 + 0, none⟩ _ from Rd.at (cells := evC (k, (w1 : Int))) z_A rfl)) ?_
      refine zq (V1.eqI (r := false) rfl rfl (decide_eq_false zw)) ?_
      refine TL.no rfl ?_
      refine TL.no rfl ?_
      refine zs ?_
      refine T.cond_f rfl (T.region (z0 (V1.fieldAddr fl_30_0 rfl) ?_))
      refine z0 (V1.load1 (v := .int .i64 k) one_3 rfl (show Rd _ _ ⟨b18, 0 + 0, none⟩ _ from Rd.at (cells := evC (k, (w1 : Int))) z_A rfl)) ?_
      refine zq (V1.eqI (r := false) rfl rfl (decide_eq_false zw)) ?_
      refine TL.no rfl ?_
      refine zs ?_
      refine T.cond_f rfl (T.seq (T.live (l := [(3, _), (12, _), (13, _), (16, _), (18, _), (20, _), (93, _), (94, _), (95, _)]) zT (fun e_ => ?_)))
      refine T.region (z0 (V1.fieldAddr fl_30_0 rfl) ?_)
      refine z0 (V1.load1 (v := .int .i64 k) one_3 rfl (show Rd _ _ ⟨b18, 0 + 0, none⟩ _ from Rd.at (cells := evC (k, (w1 : Int))) z_A rfl)) ?_
      refine zq (V1.eqI (r := true) rfl rfl (decide_eq_true zw)) ?_
      refine T.cond_t rfl (zs ?_)
      refine z0 (V1.loadN (vs := rosC (s.epoch + 1) h (.slice am (mbsW (pubL key9) s.names).length cm)) one_40 sz_40 rfl (RdN.whole z_A) (rosC_len hh)) ?_
      refine zc (T1.callC has_9 rfl rfl (Names_any w0 Ym hrm hok (s.epoch + 1) h hh) z_D (fun vn Yn hsn => ?_))
      rw [mbsW_names] at hsn
      have hnl : ((s.names ++ [9]).map u32V).length = (s.names.length + 1) * 1 := by rw [List.length_map, List.length_append, List.length_singleton, Nat.mul_one]
      obtain ⟨an, cn, rfl⟩ := hsn.form2 ze hnl
      have hrn := RowR.ofSl (w0 := w0) hsn Inc.refl ze (s.names.length + 1) hnl
      obtain ⟨bn, on, rfl, hrdn⟩ := hrn.at zw P
      rw [step_say hw hk hin] at hnext hI2
      have hTd : tds[s.told.length]? = some ⟨w1, s.epoch, s.names, s.says + 1⟩ := by rw [hT, hnext]; exact told_say
      have hTl := (List.getElem?_eq_some_iff.1 hTd).1
      obtain ⟨bt, ot, rfl, hrdt⟩ := hrt.at zw P
      obtain ⟨an3, cn3, hrn3, hkt⟩ := td_rd hxt hTd
      simp only at hrn3 hkt
      subst hat
      have hT25 : tds.length ≤ 24 := by rw [hT]; have := (SgInv.start.runs (es := es)).tl; omega
      refine z1 ?_
      refine T.seq (T.seq (T.drawDet' mixed z_F ?_))
      refine zd 0 (zO 16 zZ) (V1.move' z_C) ?_
      refine zd 1 (zO 3 zZ) (V1.move' z_C) ?_
      refine zd 2 (zN 154 1 rfl zZ) (V1.lenSl ty_23 rfl) ?_
      refine Det.cons 3 (zN 153 0 rfl (zN 155 2 rfl zZ)) (fun e_ => .inl ⟨rfl, V1.t (V1.geI (r := false) rfl rfl (decide_eq_false zw)) ⟨rfl, rfl⟩⟩) ?_
      refine zd 4 (zN 156 3 rfl zZ) (V1.move' z_C) ?_
      refine zd 5 (zO 24 (zN 157 4 rfl zZ)) (V1.move' z_C) ?_
      refine zd 6 (zN 157 4 rfl (zN 158 5 rfl zZ)) (V1.lenSl ty_42 rfl) ?_
      refine zd 7 (zO 3 (zN 157 4 rfl zZ)) (V1.move' z_C) ?_
      refine zd 8 (zO 16 (zN 157 4 rfl zZ)) (V1.move' z_C) ?_
      refine zd 9 (zN 157 4 rfl (zN 160 7 rfl (zN 161 8 rfl zZ))) (V1.indexAddrS ty_23 sz_34 rfl rfl zw zw) ?_
      refine zd 10 (zN 157 4 rfl (zN 162 9 rfl zZ)) (V1.fieldAddr fl_34_2 rfl) ?_
      refine Det.cons 11 (zN 157 4 rfl (zN 163 10 rfl zZ)) (fun e_ => .inl ⟨rfl, V1.t (V1.load1 (v := .slice an3 s.names.length cn3) one_25 rfl (hkt _ _ _ _ (hrdt _ rfl rfl _ z_D) 2 _ rfl)) ⟨rfl, rfl⟩⟩) ?_
      refine zd 12 (zN 157 4 rfl (zN 164 11 rfl zZ)) (V1.lenSl ty_25 rfl) ?_
      refine zd 13 (zN 157 4 rfl (zN 165 12 rfl zZ)) (V1.add (c := ((s.names.length + 1 : Nat) : Int)) rfl rfl z_J) ?_
      refine Det.cons 14 (zN 157 4 rfl (zN 159 6 rfl (zN 166 13 rfl zZ))) (fun e_ => .inl ⟨rfl, V1.t (V1.neI (r := false) rfl rfl (decide_eq_false zw)) ⟨rfl, rfl⟩⟩) ?_
      refine zd 15 (zN 157 4 rfl (zN 167 14 rfl zZ)) (V1.pick rfl z_C) ?_
      refine zd 16 (zN 168 15 rfl zZ) (V1.move' z_C) ?_
      refine zd 17 (zO 13 (zN 169 16 rfl zZ)) (V1.fieldAddr fl_40_0 rfl) ?_
      refine Det.cons 18 (zN 169 16 rfl (zN 170 17 rfl zZ)) (fun e_ => .inl ⟨rfl, V1.t (V1.load1 one_37 rfl (show Rd _ _ ⟨b13, 0 + 0, none⟩ (u32V (s.epoch + 1)) from Rd.at (cells := rosC (s.epoch + 1) h (.slice am (mbsW (pubL key9) s.names).length cm)) z_A rfl)) ⟨rfl, rfl⟩⟩) ?_
      refine zd 19 (zN 169 16 rfl (zN 171 18 rfl zZ)) (V1.conv (c := ((s.epoch + 1 : Nat) : Int)) ty_37 ty_3 rfl (wrap_i64 _ zw zw)) ?_
      refine zd 20 (zO 3 (zN 169 16 rfl zZ)) (V1.move' z_C) ?_
      refine zd 21 (zO 16 (zN 169 16 rfl zZ)) (V1.move' z_C) ?_
      refine zd 22 (zN 169 16 rfl (zN 173 20 rfl (zN 174 21 rfl zZ))) (V1.indexAddrS ty_23 sz_34 rfl rfl zw zw) ?_
      refine zd 23 (zN 169 16 rfl (zN 175 22 rfl zZ)) (V1.fieldAddr fl_34_1 rfl) ?_
      refine Det.cons 24 (zN 169 16 rfl (zN 176 23 rfl zZ)) (fun e_ => .inl ⟨rfl, V1.t (V1.load1 (v := iV s.epoch) one_3 rfl (hkt _ _ _ _ (hrdt _ rfl rfl _ z_D) 1 _ rfl)) ⟨rfl, rfl⟩⟩) ?_
      refine zd 25 (zN 169 16 rfl (zN 177 24 rfl zZ)) (V1.add (c := ((s.epoch + 1 : Nat) : Int)) rfl rfl z_J) ?_
      refine Det.cons 26 (zN 169 16 rfl (zN 172 19 rfl (zN 178 25 rfl zZ))) (fun e_ => .inl ⟨rfl, V1.t (V1.neI (r := false) rfl rfl (decide_eq_false zw)) ⟨rfl, rfl⟩⟩) ?_
      refine zd 27 (zN 169 16 rfl (zN 179 26 rfl zZ)) (V1.pick rfl z_C) ?_
      refine Det.nil 28 (zQ 3 (zQ 12 (zQ 13 (zQ 16 (zQ 24 (zQ 93 (zQ 94 (zQ 95 (zR 180 27 rfl zW))))))))) (fun e_ => ?_)
      refine T.cond_f rfl (zs ?_)
      refine z0 (V1.indexAddrS ty_23 sz_34 rfl rfl zw zw) ?_
      refine z0 (V1.fieldAddr fl_34_2 rfl) ?_
      refine z0 (V1.load1 (v := .slice an3 s.names.length cn3) one_25 rfl (hkt _ _ _ _ (hrdt _ rfl rfl _ z_D) 2 _ rfl)) ?_
      refine zq1 (V1.lenSl ty_25 rfl) ?_
      refine T.block (T.loopL (σ := Nat) (l0 := [(3, _), (12, _), (13, _), (16, _), (24, _), (93, _), (94, _), (95, _), (185, _), (186, _)]) (fun x => [(187, .int .i64 (x : Nat))]) (fun x L => L = (⟨b13, 0, rosC (s.epoch + 1) (h) (.slice am (mbsW (pubL key9) s.names).length cm), 34⟩ : Blk) :: (Ym ++ (⟨b12, 0, key9.map byteV, 32⟩ :: (Yn ++ (Lt ++ (Q ++ G))))) ∧ x ≤ s.names.length) (fun x => s.names.length - x) 0 (.cons rfl .nil) zT z_B (⟨rfl, Nat.zero_le _⟩) ?_)
      rintro j e_ L ⟨rfl, hj⟩
      refine zs ?_
      refine zc (T1.ltI_split rfl rfl (fun h37 => ?_) (fun h37 => ?_))
      ·
       obtain ⟨n, hn0⟩ : ∃ n, s.names[j]? = some n := ⟨_, List.getElem?_eq_getElem zw⟩
       have hn6 := hnm.2 n (List.mem_of_getElem? hn0)
       obtain ⟨b3_, o3_, rfl, hrd3⟩ := hrn3.at zw P
       refine zs ?_
       refine T.cond_t rfl (zs ?_)
       refine z0 (V1.indexAddrS ty_25 sz_3 rfl rfl zw zw) ?_
       refine zc (V1.t (V1.load1 (v := iV n) one_3 rfl (show Rd _ _ ⟨b3_, o3_ + j * 1, none⟩ _ from by rw [Nat.mul_one]; exact hrd3 _ rfl rfl _ z_D j _ (by rw [List.getElem?_map, hn0]; rfl))) ?_)
       refine zs ?_
       refine z0 (V1.indexAddrS ty_42 sz_37 rfl rfl zw zw) ?_
       refine zc (V1.t (V1.load1 (v := u32V n) one_37 rfl (show Rd _ _ ⟨bn, on + j * 1, none⟩ _ from by rw [Nat.mul_one]; exact hrdn _ rfl rfl _ z_D j _ (by rw [List.getElem?_map, List.getElem?_append_left zw, hn0]; rfl))) ?_)
       refine zq (V1.conv (c := ((n : Nat) : Int)) ty_37 ty_3 rfl (wrap_i64 _ zw zw)) ?_
       refine z0 (V1.neI (r := false) rfl rfl (decide_eq_false zw)) ?_
       refine TL.nil ?_
       refine T.cond_f rfl (zs ?_)
       refine zq1 (V1.add (c := ((j + 1 : Nat) : Int)) rfl rfl z_J) ?_
       exact ⟨j + 1, ⟨b13, 0, rosC (s.epoch + 1) (h) (.slice am (mbsW (pubL key9) s.names).length cm), 34⟩ :: (Ym ++ (⟨b12, 0, key9.map byteV, 32⟩ :: (Yn ++ (Lt ++ (Q ++ G))))), _, z_N, (.cons rfl .nil), (.cons rfl (.cons rfl (.cons rfl (.cons rfl (.cons rfl (.cons rfl (.cons rfl (.cons rfl (.cons rfl (.cons rfl .nil)))))))))), z_B, ⟨rfl, by omega⟩⟩
      ·
       refine zs ?_
       refine T.cond_f rfl (zs ?_)
       refine zq (V1.add (c := ((s.told.length + 1 : Nat) : Int)) rfl rfl z_J) ?_
       refine zq1 (V1.add (c := ((i + 1 : Nat) : Int)) rfl rfl z_J) ?_
       exact ⟨(i + 1, s.told.length + 1), ⟨b13, 0, rosC (s.epoch + 1) (h) (.slice am (mbsW (pubL key9) s.names).length cm), 34⟩ :: (Ym ++ (⟨b12, 0, key9.map byteV, 32⟩ :: (Lt ++ (Q ++ G)))), _, z_N, (.cons rfl (.cons rfl .nil)), (.cons rfl (.cons rfl (.cons rfl (.cons rfl (.cons rfl .nil))))), z_B, ⟨s.say w1, h, _, Ym, rfl, by simp only; omega, hh, hsm, hI2, hnext, by simp [Sg.say]⟩⟩
     ·
      refine T.live (l := [(3, _), (12, _), (13, _), (16, _), (18, _), (20, _), (93, _), (94, _), (95, _)]) zT (fun e_ => ?_)
      refine T.region (z0 (V1.fieldAddr fl_30_0 rfl) ?_)
      refine z0 (V1.load1 (v := .int .i64 k) one_3 rfl (show Rd _ _ ⟨b18, 0 + 0, none⟩ _ from Rd.at (cells := evC (k, (w1 : Int))) z_A rfl)) ?_
      refine zq (V1.eqI (r := false) rfl rfl (decide_eq_false zw)) ?_
      refine TL.no rfl ?_
      refine TL.no rfl ?_
      refine zs ?_
      refine T.cond_f rfl (T.region (z0 (V1.fieldAddr fl_30_0 rfl) ?_))
      refine z0 (V1.load1 (v := .int .i64 k) one_3 rfl (show Rd _ _ ⟨b18, 0 + 0, none⟩ _ from Rd.at (cells := evC (k, (w1 : Int))) z_A rfl)) ?_
      refine zq (V1.eqI (r := false) rfl rfl (decide_eq_false zw)) ?_
      refine TL.no rfl ?_
      refine zs ?_
      refine T.cond_f rfl (T.seq (T.live (l := [(3, _), (12, _), (13, _), (16, _), (18, _), (20, _), (93, _), (94, _), (95, _)]) zT (fun e_ => ?_)))
      refine T.region (z0 (V1.fieldAddr fl_30_0 rfl) ?_)
      refine z0 (V1.load1 (v := .int .i64 k) one_3 rfl (show Rd _ _ ⟨b18, 0 + 0, none⟩ _ from Rd.at (cells := evC (k, (w1 : Int))) z_A rfl)) ?_
      refine zq (V1.eqI (r := false) rfl rfl (decide_eq_false zw)) ?_
      refine TL.no rfl ?_
      refine zs ?_
      refine T.cond_f rfl (zs ?_)
      refine zq1 (V1.add (c := ((i + 1 : Nat) : Int)) rfl rfl z_J) ?_
      rw [step_lay hw hk] at hnext hI2
      exact ⟨(i + 1, at0), ⟨b13, 0, rosC (s.epoch + 1) (h) (.slice am (mbsW (pubL key9) s.names).length cm), 34⟩ :: (Ym ++ (⟨b12, 0, key9.map byteV, 32⟩ :: (Lt ++ (Q ++ G)))), _, z_N, (.cons rfl (.cons rfl .nil)), (.cons rfl (.cons rfl (.cons rfl (.cons rfl (.cons rfl .nil))))), z_B, ⟨s.lay w1, h, _, Ym, rfl, by simp only; omega, hh, hsm, hI2, hnext, hat⟩⟩
    ·
     have hmo := mbZ_ok
     refine zc (T1.callV has_8 rfl rfl (FindM_f w0 Ym hrm hok (s.epoch + 1) h hh w1 zw (fun c => hin ((mbsW_has hw.2).1 c))) z_D (fun v_ hv => ?_))
     obtain rfl := hv
     refine zs ?_
     refine zc (T1.allocN 66 zr_55 rfl (fun b19 => ?_))
     refine zc (T1.storeN rfl rfl sz_55 (mbC_one _) z_H (by rw [mbC_len hmo]; rfl) (mbC_len hmo) ?_)
     refine z1 ?_
     refine T.block (T.seq (T.seq ?_))
     rcases (show k = 1 ∨ k = 2 ∨ k = 3 ∨ k = 4 by omega) with hk | hk | hk | hk
     ·
      refine T.live (l := [(3, _), (12, _), (13, _), (16, _), (18, _), (20, _), (93, _), (94, _), (95, _)]) zT (fun e_ => ?_)
      refine T.region (z0 (V1.fieldAddr fl_30_0 rfl) ?_)
      refine z0 (V1.load1 (v := .int .i64 k) one_3 rfl (show Rd _ _ ⟨b18, 0 + 0, none⟩ _ from Rd.at (cells := evC (k, (w1 : Int))) z_A rfl)) ?_
      refine zq (V1.eqI (r := true) rfl rfl (decide_eq_true zw)) ?_
      refine zq (V1.not rfl rfl) ?_
      refine T.cond_t rfl (T.skip (T.cond_t rfl (zs ?_)))
      refine T.cond_f rfl (zs ?_)
      refine z0 (V1.loadN (vs := rosC (s.epoch + 1) h (.slice am (mbsW (pubL key9) s.names).length cm)) one_40 sz_40 rfl (RdN.whole z_A) (rosC_len hh)) ?_
      refine zq (V1.loadN (vs := key9.map byteV) one_36 sz_36 rfl (RdN.whole z_A) rfl) ?_
      refine z0 (V1.fieldAddr fl_30_1 rfl) ?_
      refine z0 (V1.load1 (v := .int .i64 (w1 : Nat)) one_3 rfl (show Rd _ _ ⟨b18, 0 + 1, none⟩ _ from Rd.at (cells := evC (k, (w1 : Int))) z_A rfl)) ?_
      refine z0 (V1.conv (c := ((w1 : Nat) : Int)) ty_3 ty_37 rfl (wrap_u32 _ zw zw)) ?_
      refine z0 (V1.buildFA (out := key1.map byteV) ty_36 sz_5 zr_36 (.one rfl z_C rfl .nil) z_I) ?_
      refine z0 (V1.buildF (zl := stpC 0 0 0 (List.replicate 32 0) (List.replicate 32 0) (.slice none 0 0)) (out := stpC 2 9 w1 key1 keyZ (.slice none 0 0)) pl_51 zr_51 (.one rfl z_C rfl (.one rfl z_C rfl (.one rfl z_C rfl (.many (l := key1.map byteV) rfl z_C (by rw [List.length_map, (show key1.length = 32 from rfl)]) .nil)))) (stp_fill4 (show key1.length = 32 from rfl))) ?_
      refine zc (T1.callC has_5 rfl rfl (RMake_any w0 (s.epoch + 1) (v := .slice am (mbsW (pubL key9) s.names).length cm) (h := h) (sg := key1) (ag := keyZ) (seed := key9) (op := 2) (by_ := 9) (to := w1) hh rfl rfl rfl ze ze zw rfl) z_D (fun v_ Yf hv => ?_))
      obtain ⟨bk, bn, bs, rfl, hF⟩ := hv
      refine zs ?_
      refine zc (T1.allocN 5 zr_46 rfl (fun b22 => ?_))
      refine zc (T1.storeN rfl rfl sz_46 (ones rfl) z_H zr zr ?_)
      refine z1 ?_
      refine T.seq (T.seq (T.live (l := [(3, _), (12, _), (13, _), (16, _), (22, _), (23, _), (93, _), (94, _), (95, _)]) zT (fun e_ => ?_)))
      refine zs ?_
      refine z0 (V1.neI (r := false) rfl rfl ze) ?_
      refine TL.nil ?_
      refine T.cond_f rfl (zs ?_)
      refine z0 (V1.loadN (vs := rosC (s.epoch + 1) h (.slice am (mbsW (pubL key9) s.names).length cm)) one_40 sz_40 rfl (RdN.whole z_A) (rosC_len hh)) ?_
      refine z0 (V1.loadN (vs := frC bk bn bs) one_46 sz_46 rfl (RdN.whole z_A) rfl) ?_
      refine zc (T1.callC (Ps := (Ym ++ Yf)) has_7 rfl rfl (Apply_any w0 (Ym ++ Yf) (ms := (mbsW (pubL key9) s.names)) (ms2 := mbsW (pubL key9) (addN s.names w1)) (a := am) (c := cm) (row_in hrm Yf) hok (e := s.epoch + 1) zw (h := h) (sg := key1) (ag := keyZ) (seed := key9) hh rfl rfl rfl (op := 2) (by_ := 9) (to := w1) ze ze zw (hF.more (Inc.skip Inc.refl)) (rights_add w0 (Ym ++ Yf) (row_in hrm Yf) hok hh rfl rfl rfl ze zw (mbsW_nine (pubL key9) s.names) (mbW_name _ 9) rfl (fun c => hin ((mbsW_has hw.2).1 c)) zw) (hok.each _ (mbsW_nine (pubL key9) s.names)) (FindM_t w0 (Ym ++ Yf) (row_in hrm Yf) hok (s.epoch + 1) h hh (mbsW_nine (pubL key9) s.names) 9 (mbW_name _ 9)) (kn := true) rfl (.inr (.inl ⟨rfl, (mbs_add hnm.1 hnm.2 hw hin).symm⟩))) z_D (fun v_ Ya hv => ?_))
      obtain ⟨v2, rfl, hs2⟩ := hv
      refine zs ?_
      refine zc (T1.storeN rfl rfl sz_40 (rosC_one hs2.one) z_H (by rw [rosC_len (hashL_len _), rosC_len hh]) (rosC_len (hashL_len _)) ?_)
      refine zs ?_
      refine z0 (V1.neI (r := false) rfl rfl ze) ?_
      refine TL.nil ?_
      refine T.cond_f rfl (zs ?_)
      refine zq1 (V1.add (c := ((i + 1 : Nat) : Int)) rfl rfl z_J) ?_
      rw [step_add hw hk hin] at hnext hI2
      exact ⟨(i + 1, at0), ⟨b13, 0, rosC (s.epoch + 1 + 1) (hashL (frB h key1 keyZ (sigL key9 (chgL ++ frB h key1 keyZ sig0 2 9 w1)) 2 9 w1)) (v2), 34⟩ :: (Ya ++ (⟨b12, 0, key9.map byteV, 32⟩ :: (Lt ++ (Q ++ G)))), _, z_N, (.cons rfl (.cons rfl .nil)), (.cons rfl (.cons rfl (.cons rfl (.cons rfl (.cons rfl .nil))))), z_B, ⟨s.turn (addN s.names w1), _, v2, Ya, rfl, by simp only; omega, hashL_len _, hs2, hI2, hnext, hat⟩⟩
     ·
      refine T.live (l := [(3, _), (12, _), (13, _), (16, _), (18, _), (20, _), (93, _), (94, _), (95, _)]) zT (fun e_ => ?_)
      refine T.region (z0 (V1.fieldAddr fl_30_0 rfl) ?_)
      refine z0 (V1.load1 (v := .int .i64 k) one_3 rfl (show Rd _ _ ⟨b18, 0 + 0, none⟩ _ from Rd.at (cells := evC (k, (w1 : Int))) z_A rfl)) ?_
      refine zq (V1.eqI (r := false) rfl rfl (decide_eq_false zw)) ?_
      refine TL.no rfl ?_
      refine TL.no rfl ?_
      refine zs ?_
      refine T.cond_f rfl (T.region (z0 (V1.fieldAddr fl_30_0 rfl) ?_))
      refine z0 (V1.load1 (v := .int .i64 k) one_3 rfl (show Rd _ _ ⟨b18, 0 + 0, none⟩ _ from Rd.at (cells := evC (k, (w1 : Int))) z_A rfl)) ?_
      refine zq (V1.eqI (r := true) rfl rfl (decide_eq_true zw)) ?_
      refine T.cond_f rfl (T.seq (T.live (l := [(3, _), (12, _), (13, _), (16, _), (18, _), (20, _), (93, _), (94, _), (95, _)]) zT (fun e_ => ?_)))
      refine T.region (z0 (V1.fieldAddr fl_30_0 rfl) ?_)
      refine z0 (V1.load1 (v := .int .i64 k) one_3 rfl (show Rd _ _ ⟨b18, 0 + 0, none⟩ _ from Rd.at (cells := evC (k, (w1 : Int))) z_A rfl)) ?_
      refine zq (V1.eqI (r := false) rfl rfl (decide_eq_false zw)) ?_
      refine TL.no rfl ?_
      refine zs ?_
      refine T.cond_f rfl (zs ?_)
      refine zq1 (V1.add (c := ((i + 1 : Nat) : Int)) rfl rfl z_J) ?_
      rw [step_none hw zw (fun h => absurd h zw) (fun h => hin)] at hnext hI2
      exact ⟨(i + 1, at0), ⟨b13, 0, rosC (s.epoch + 1) (h) (.slice am (mbsW (pubL key9) s.names).length cm), 34⟩ :: (Ym ++ (⟨b12, 0, key9.map byteV, 32⟩ :: (Lt ++ (Q ++ G)))), _, z_N, (.cons rfl (.cons rfl .nil)), (.cons rfl (.cons rfl (.cons rfl (.cons rfl (.cons rfl .nil))))), z_B, ⟨s, h, _, Ym, rfl, by simp only; omega, hh, hsm, hI2, hnext, hat⟩⟩
     ·
      refine T.live (l := [(3, _), (12, _), (13, _), (16, _), (18, _), (20, _), (93, _), (94, _), (95, _)]) zT (fun e_ => ?_)
      refine T.region (z0 (V1.fieldAddr fl_30_0 rfl) ?_)
      refine z0 (V1.load1 (v := .int .i64 k) one_3 rfl (show Rd _ _ ⟨b18, 0 + 0, none⟩ _ from Rd.at (cells := evC (k, (w1 : Int))) z_A rfl)) ?_
      refine zq (V1.eqI (r := false) rfl rfl (decide_eq_false zw)) ?_
      refine TL.no rfl ?_
      refine TL.no rfl ?_
      refine zs ?_
      refine T.cond_f rfl (T.region (z0 (V1.fieldAddr fl_30_0 rfl) ?_))
      refine z0 (V1.load1 (v := .int .i64 k) one_3 rfl (show Rd _ _ ⟨b18, 0 + 0, none⟩ _ from Rd.at (cells := evC (k, (w1 : Int))) z_A rfl)) ?_
      refine zq (V1.eqI (r := false) rfl rfl (decide_eq_false zw)) ?_
      refine TL.no rfl ?_
      refine zs ?_
      refine T.cond_f rfl (T.seq (T.live (l := [(3, _), (12, _), (13, _), (16, _), (18, _), (20, _), (93, _), (94, _), (95, _)]) zT (fun e_ => ?_)))
      refine T.region (z0 (V1.fieldAddr fl_30_0 rfl) ?_)
      refine z0 (V1.load1 (v := .int .i64 k) one_3 rfl (show Rd _ _ ⟨b18, 0 + 0, none⟩ _ from Rd.at (cells := evC (k, (w1 : Int))) z_A rfl)) ?_
      refine zq (V1.eqI (r := true) rfl rfl (decide_eq_true zw)) ?_
      refine T.cond_f rfl (zs ?_)
      refine zq1 (V1.add (c := ((i + 1 : Nat) : Int)) rfl rfl z_J) ?_
      rw [step_none hw zw (fun h => absurd h zw) (fun h => hin)] at hnext hI2
      exact ⟨(i + 1, at0), ⟨b13, 0, rosC (s.epoch + 1) (h) (.slice am (mbsW (pubL key9) s.names).length cm), 34⟩ :: (Ym ++ (⟨b12, 0, key9.map byteV, 32⟩ :: (Lt ++ (Q ++ G)))), _, z_N, (.cons rfl (.cons rfl .nil)), (.cons rfl (.cons rfl (.cons rfl (.cons rfl (.cons rfl .nil))))), z_B, ⟨s, h, _, Ym, rfl, by simp only; omega, hh, hsm, hI2, hnext, hat⟩⟩
     ·
      refine T.live (l := [(3, _), (12, _), (13, _), (16, _), (18, _), (20, _), (93, _), (94, _), (95, _)]) zT (fun e_ => ?_)
      refine T.region (z0 (V1.fieldAddr fl_30_0 rfl) ?_)
      refine z0 (V1.load1 (v := .int .i64 k) one_3 rfl (show Rd _ _ ⟨b18, 0 + 0, none⟩ _ from Rd.at (cells := evC (k, (w1 : Int))) z_A rfl)) ?_
      refine zq (V1.eqI (r := false) rfl rfl (decide_eq_false zw)) ?_
      refine TL.no rfl ?_
      refine TL.no rfl ?_
      refine zs ?_
      refine T.cond_f rfl (T.region (z0 (V1.fieldAddr fl_30_0 rfl) ?_))
      refine z0 (V1.load1 (v := .int .i64 k) one_3 rfl (show Rd _ _ ⟨b18, 0 + 0, none⟩ _ from Rd.at (cells := evC (k, (w1 : Int))) z_A rfl)) ?_
      refine zq (V1.eqI (r := false) rfl rfl (decide_eq_false zw)) ?_
      refine TL.no rfl ?_
      refine zs ?_
      refine T.cond_f rfl (T.seq (T.live (l := [(3, _), (12, _), (13, _), (16, _), (18, _), (20, _), (93, _), (94, _), (95, _)]) zT (fun e_ => ?_)))
      refine T.region (z0 (V1.fieldAddr fl_30_0 rfl) ?_)
      refine z0 (V1.load1 (v := .int .i64 k) one_3 rfl (show Rd _ _ ⟨b18, 0 + 0, none⟩ _ from Rd.at (cells := evC (k, (w1 : Int))) z_A rfl)) ?_
      refine zq (V1.eqI (r := false) rfl rfl (decide_eq_false zw)) ?_
      refine TL.no rfl ?_
      refine zs ?_
      refine T.cond_f rfl (zs ?_)
      refine zq1 (V1.add (c := ((i + 1 : Nat) : Int)) rfl rfl z_J) ?_
      rw [step_lay hw hk] at hnext hI2
      exact ⟨(i + 1, at0), ⟨b13, 0, rosC (s.epoch + 1) (h) (.slice am (mbsW (pubL key9) s.names).length cm), 34⟩ :: (Ym ++ (⟨b12, 0, key9.map byteV, 32⟩ :: (Lt ++ (Q ++ G)))), _, z_N, (.cons rfl (.cons rfl .nil)), (.cons rfl (.cons rfl (.cons rfl (.cons rfl (.cons rfl .nil))))), z_B, ⟨s.lay w1, h, _, Ym, rfl, by simp only; omega, hh, hsm, hI2, hnext, hat⟩⟩
   ·
    obtain rfl : i = es.length := by omega
    rw [List.drop_length] at hrun
    have hTs : tds = s.told := by rw [hT, hrun]; rfl
    refine zs ?_
    refine T.cond_f rfl (zs ?_)
    refine z0 (V1.lenSl ty_23 rfl) ?_
    refine zq (V1.eqI (r := true) rfl rfl (decide_eq_true (by rw [hTs]; simp only [hat]))) ?_
    exact ⟨_, G, _, .cons (.tmp z_C) .nil, z_B, rfl, rfl⟩
 ·
  rw [decide_eq_true hc0]
  have hO : (sgOut es).told.length = 0 := by rw [sgOut_err hc0]; rfl
  refine TL.nil ?_
  refine T.cond_t rfl (zs ?_)
  refine z0 (V1.lenSl ty_23 rfl) ?_
  refine zq (V1.eqI (r := true) rfl rfl (decide_eq_true zw)) ?_
  exact ⟨_, G, _, .cons (.tmp z_C) .nil, z_B, rfl, rfl⟩
end Go.Proofs.YtfjedhmffccgnaaGreatDoor.S
