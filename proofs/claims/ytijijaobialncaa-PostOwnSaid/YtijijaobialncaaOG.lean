/- What is handed in, and handed out, is the server's no more: walked. -/
import Derived.Test.YtijijaobialncaaOF
namespace Go.Proofs.Ytijijaobialncaa.S
open Go.RowKit

theorem own_send {l le : List UInt8} (he : (envF 1 l).enc = .ok le) (h2 : le.length ≤ 65536) : sendP [q1] 1 l [1] = ([⟨1, none, [], [le]⟩], 0) := by
  have hf : findP [q1] 1 = some q1 := rfl
  have hr : Pr.room q1 le.length = true := decide_eq_true ⟨by decide, by show 0 + _ ≤ _; omega⟩
  have hb : sendBad [q1] le.length [] [1] = 0 := by rw [sendBad, hf]; dsimp only; rw [if_neg (by simp), if_pos hr]; rfl
  rw [sendP_ok hf he hb, sendTo, hf]
  rfl
theorem own_put {l le : List UInt8} (h : le.length + l.length ≤ 65536) : putP [⟨1, none, [], [le]⟩] 1 l = ([⟨1, none, [], [le, l]⟩], 0) := by
  have hf : findP [⟨1, none, [], [le]⟩] 1 = some ⟨1, none, [], [le]⟩ := rfl
  have hr : Pr.room ⟨1, none, [], [le]⟩ l.length = true := decide_eq_true ⟨by show 1 < 200; decide, by show ([le].map List.length).sum + _ ≤ _; simpa using h⟩
  rw [putP_ok hf hr]; rfl
theorem own_take1 (l le : List UInt8) : takeP [⟨1, none, [], [le, l]⟩] 1 0 = ([⟨1, none, [], [l]⟩], some le) := by
  have hf : findP [⟨1, none, [], [le, l]⟩] 1 = some ⟨1, none, [], [le, l]⟩ := rfl
  have := takeP_ok (j := 0) hf (l := le) rfl
  rw [show ((0 : Nat) : Int) = 0 from rfl] at this
  rw [this]; rfl
theorem own_take2 (l : List UInt8) : takeP [⟨1, none, [], [l]⟩] 1 0 = ([q1], some l) := by
  have hf : findP [⟨1, none, [], [l]⟩] 1 = some ⟨1, none, [], [l]⟩ := rfl
  have := takeP_ok (j := 0) hf (l := l) rfl
  rw [show ((0 : Nat) : Int) = 0 from rfl] at this
  rw [this]; rfl
theorem own_pub {f : Frm} (h : f.bundle = true) : pubP [q1] 1 f [] = ([⟨1, some f, [], []⟩], 0) := by
  have hf : findP [q1] 1 = some q1 := rfl
  rw [pubP_ok hf (fun g hg => by rw [List.mem_singleton] at hg; subst hg; exact h) (by decide)]; rfl
theorem own_bad {f : Frm} (h : f.bundle = false) : pubP [q1] 1 f [] = ([q1], 110) := by
  have hf : findP [q1] 1 = some q1 := rfl
  exact pubP_shape (i := 0) hf rfl h
theorem own_fetch (f : Frm) : fetchP [⟨1, some f, [], []⟩] 1 = ([⟨1, some f, [], []⟩], some f) := rfl
set_option maxRecDepth 100000 in
set_option maxHeartbeats 8000000 in
theorem PostOwn_us (w0 : World) (v0 v1 : Value) (l : List UInt8) (f : Frm) (hb : SlR w0 v0 1 l.length (l.map byteV)) (fr : FrIs w0 v1 f.kind f.keys f.nums f.sigs f.data) (hk0 : f.keys.length ≤ 4398046510976) (hn0 : f.nums.length ≤ 35184372087808) (hx0 : f.sigs.length ≤ 2199023255488) (hd0 : f.data.length ≤ 140737488351232) : FnV P 7 [v0, v1] w0 [] (fun v => v = .bool true) := by
  have fr2 := fr
  obtain ⟨⟨vk, vn, vs, vd, rfl, hKs, hNs, hXs, hDs⟩, hkeys, hnums, hsigs, hlen⟩ := fr2
  obtain ⟨vka, vkc, rfl⟩ := hKs.form
  obtain ⟨vna, vnc, rfl⟩ := hNs.form
  obtain ⟨vxa, vxc, rfl⟩ := hXs.form
  obtain ⟨vda, vdc, rfl⟩ := hDs.form
  obtain ⟨ba0, bc0, rfl⟩ := hb.form
  refine FnV.of 171 [.tmp 4] Go.Proofs.Try.func7 rfl rfl rfl rfl (fun G hG => ?_)
  refine T.seq ?_
  refine T.region ?_
  refine TL.cons rfl (T1.boxN 5 rfl rfl (fun b3 => ?_))
  refine TL.cons rfl (V1.t (V1.assign' z_C) ?_)
  refine TL.nil ?_
  refine T.seq ?_
  refine T.seq ?_
  refine T.region ?_
  refine TL.cons rfl (T1.callV has_8 rfl rfl (hands_any w0 []) z_E (fun v_ hv => ?_))
  obtain rfl := hv
  refine TL.cons rfl (V1.t (V1.not (r := false) rfl rfl) ?_)
  refine TL.nil ?_
  refine T.cond_f rfl ?_
  refine T.skip ?_
  refine T.seq ?_
  refine T.region ?_
  refine TL.cons rfl (T1.callC has_9 rfl rfl (New_any w0) z_E (fun v_ X0 hv => ?_))
  obtain ⟨p, rfl, hS0⟩ := hv
  refine TL.cons rfl (V1.t (V1.assign' z_C) ?_)
  refine TL.nil ?_
  refine T.seq ?_
  refine T.seq ?_
  refine T.region ?_
  refine TL.cons rfl (V1.t (V1.move' z_C) ?_)
  refine TL.cons rfl (V1.t (V1.eqPn ty_23 rfl rfl) ?_)
  refine TL.cons rfl (V1.t (V1.move' z_C) ?_)
  refine TL.cons rfl (V1.t (V1.move' z_C) ?_)
  refine TL.cons rfl (T1.callM («as» := [.pointer (some ⟨p, 0, none⟩), u32V 1]) (X := X0) has_10 rfl rfl (Join_any w0 hS0 1 (by decide)) z_A z_E (fun v_ X1 hv => ?_))
  obtain ⟨hv, hS1⟩ := hv
  replace hS1 : SrvO p ([q1]) X1 := hS1
  replace hv : v_ = .int .i64 0 := hv
  subst hv
  refine TL.cons rfl (V1.t (V1.neI (r := false) rfl rfl rfl) ?_)
  refine TL.cons rfl (V1.t (V1.pick rfl z_C) ?_)
  refine TL.cons rfl (V1.t (V1.move' z_C) ?_)
  refine TL.cons rfl (V1.t (V1.move' z_C) ?_)
  refine TL.cons rfl (V1.t (V1.lenSl ty_29 rfl) ?_)
  refine TL.cons rfl (T1.gtI_split rfl rfl (fun h4 => ?_) (fun h4 => ?_))
  ·
    refine TL.cons rfl (V1.t (V1.pick rfl z_C) ?_)
    refine TL.nil ?_
    refine T.cond_t rfl ?_
    refine T.seq ?_
    refine T.live (l := [(5, _)]) (.cons z_C .nil) (fun e_ => ?_)
    refine T.region ?_
    refine TL.cons rfl (V1.t (V1.move' z_C) ?_)
    refine TL.cons rfl (V1.t (V1.nePn ty_23 rfl rfl) ?_)
    refine TL.cons rfl (V1.t (V1.assign' z_C) ?_)
    refine TL.nil ?_
    refine T.ret ?_
    exact ⟨_, G, _, .cons (.tmp z_C) .nil, z_A, rfl, rfl⟩
  ·
    obtain ⟨le, henc, hll, hdec⟩ := env_dec (t := l) (by omega)
    refine TL.cons rfl (V1.t (V1.pick rfl z_C) ?_)
    refine TL.nil ?_
    refine T.cond_f rfl ?_
    refine T.skip ?_
    refine T.seq ?_
    refine T.live (l := [(0, _), (3, _), (5, _)]) (.cons z_C (.cons z_C (.cons z_C .nil))) (fun e_ => ?_)
    refine T.region ?_
    refine TL.cons rfl (T1.buildNone0 ty_29 sz_5 zr_5 (fun b39 => ?_))
    refine TL.cons rfl (V1.t (V1.move' z_C) ?_)
    refine TL.cons rfl (T1.append ty_29 kd_29 sz_5 by_5 zr_5 rfl (by decide) (by decide) rfl rfl (Sl.none0 (b := b39)) (hb.src rfl) (one_bytes _) l.length (by simp only [List.length_map, List.length_nil]; omega) (by omega) z_B (fun s1 Ls1 hs1 => ?_))
    rw [List.nil_append] at hs1
    obtain ⟨s1a, s1c, rfl⟩ := hs1.form1
    refine TL.cons rfl (V1.t (V1.assign' z_C) ?_)
    refine TL.nil ?_
    refine T.seq ?_
    refine T.seq ?_
    refine T.region ?_
    refine TL.cons rfl (V1.t (V1.move' z_C) ?_)
    refine TL.cons rfl (V1.t (V1.move' z_C) ?_)
    refine TL.cons rfl (T1.buildSl1 (os := [.const (.int .u32 1)]) (vs := [u32V 1]) ty_36 sz_27 zr_27 (by decide) rfl (.cons rfl .nil) rfl (ones rfl) (fun b44 => ?_))
    refine TL.cons rfl (T1.callM («as» := [.pointer (some ⟨p, 0, none⟩), u32V 1, .slice s1a l.length s1c, .slice (some ⟨b44, 0, none⟩) 1 1]) (X := X1) has_11 rfl rfl (Send_any w0 ((⟨b44, 0, [u32V 1], 1⟩ : Blk) :: Ls1) hS1 1 (by decide) (l := l) (RowS.ofSl hs1 (Inc.skip1 Inc.refl) (by decide) _ (by simp)).row (ns := [1]) (RowS.ofSl (tg := none) (Ls := [(⟨b44, 0, [u32V 1], 1⟩ : Blk)]) (.inr ⟨b44, 0, 1, 1, 1, rfl, rfl, Nat.le_refl _, Nat.le_refl _, rfl⟩) (fun B_ hB_ => by rw [List.mem_singleton] at hB_; subst hB_; simp) (by decide) 1 rfl) (by decide)) z_A z_E (fun v_ X2 hv => ?_))
    obtain ⟨hv, hS2⟩ := hv
    rw [own_send henc (by omega)] at hv hS2
    subst hv
    refine TL.cons rfl (V1.t (V1.neI (r := false) rfl rfl rfl) ?_)
    refine TL.cons rfl (V1.t (V1.move' z_C) ?_)
    refine TL.cons rfl (V1.t (V1.move' z_C) ?_)
    refine TL.cons rfl (V1.t (V1.move' z_C) ?_)
    refine TL.cons rfl (T1.callM («as» := [.pointer (some ⟨p, 0, none⟩), u32V 1, .slice s1a l.length s1c]) (X := X2) has_23 rfl rfl (Put_any w0 Ls1 hS2 1 (l := l) (RowS.ofSl hs1 Inc.refl (by decide) _ (by simp)).row (by omega)) z_A z_E (fun v_ X3 hv => ?_))
    obtain ⟨hv, hS3⟩ := hv
    rw [own_put (by omega)] at hv hS3
    subst hv
    refine TL.cons rfl (V1.t (V1.neI (r := false) rfl rfl rfl) ?_)
    refine TL.cons rfl (V1.t (V1.pick rfl z_C) ?_)
    refine TL.nil ?_
    refine T.cond_f rfl ?_
    refine T.skip ?_
    refine T.seq ?_
    refine T.seq ?_
    refine T.live (l := [(0, _), (3, _), (5, _), (6, _)]) (.cons z_C (.cons z_C (.cons z_C (.cons z_C .nil)))) (fun e_ => ?_)
    refine T.region ?_
    refine TL.cons rfl (V1.t (V1.move' z_C) ?_)
    refine TL.cons rfl (V1.t (V1.lenSl ty_29 rfl) ?_)
    refine TL.cons rfl (V1.t (V1.move' z_C) ?_)
    refine TL.nil ?_
    refine T.block ?_
    refine T.loopL (σ := Nat × List UInt8 × List Blk) (l0 := [(0, _), (3, _), (5, _), (6, _), (54, _)]) (fun x => [(55, .int .i64 (x.1 : Nat))]) (fun x L => L = X3 ++ (x.2.2 ++ ((⟨b3, 0, [.int .i64 f.kind, .slice vka f.keys.length vkc, .slice vna f.nums.length vnc, .slice vxa f.sigs.length vxc, .slice vda f.data.length vdc], 5⟩ : Blk) :: G)) ∧ Sl (.slice s1a l.length s1c) (x.2.1.map byteV) 1 x.2.2 ∧ x.1 ≤ l.length ∧ x.2.1.length = l.length) (fun x => l.length - x.1) (0, l, Ls1) (.cons rfl .nil) (.cons z_C (.cons z_C (.cons z_C (.cons z_C (.cons z_C .nil))))) z_A (⟨rfl, hs1, Nat.zero_le _, rfl⟩) ?_
    rintro ⟨i, ys, Lx⟩ e_ L ⟨rfl, hx, hle, hyl⟩
    dsimp only at hx hle hyl
    dsimp only
    refine T.seq ?_
    refine T.region ?_
    refine TL.cons rfl (T1.ltI_split rfl rfl (fun h10 => ?_) (fun h10 => ?_))
    ·
      obtain ⟨bb, off, size, rfl, hyl2, hcap, hsz, rfl⟩ := hx.own1 (by omega)
      obtain ⟨x, hxi⟩ : ∃ x, ys[i]? = some x := ⟨_, List.getElem?_eq_getElem (by omega)⟩
      refine TL.nil ?_
      refine T.seq ?_
      refine T.cond_t rfl ?_
      refine T.skip ?_
      refine T.seq ?_
      refine T.block ?_
      refine T.seq ?_
      refine T.region ?_
      refine TL.cons rfl (V1.t (V1.move' z_C) ?_)
      refine TL.cons rfl (V1.t (V1.assign' z_C) ?_)
      refine TL.nil ?_
      refine T.region ?_
      refine TL.cons rfl (V1.t (V1.move' z_C) ?_)
      refine TL.cons rfl (V1.t (V1.move' z_C) ?_)
      refine TL.cons rfl (V1.t (V1.indexAddrS ty_29 sz_5 rfl rfl (by omega) (by omega)) ?_)
      refine TL.cons rfl (V1.t (V1.load1 one_5 rfl (show Rd _ _ ⟨bb, off + i * 1, none⟩ (byteV x) from by rw [Nat.mul_one]; exact Rd.at z_D (by rw [List.getElem?_map, hxi]; rfl))) ?_)
      refine TL.cons rfl (V1.t (V1.bits rfl rfl rfl (xorB 255 (by decide))) ?_)
      refine TL.cons rfl (V1.t (V1.indexAddrS ty_29 sz_5 rfl rfl (by omega) (by omega)) ?_)
      refine TL.cons rfl (T1.storeE (o := off + i * 1) (cells := ys.map byteV) (cells' := (ys.set i (x ^^^ UInt8.ofNat 255)).map byteV) rfl rfl sz_5 rfl (by rw [show off + i * 1 - off = i from by omega, List.map_set]; rfl) z_G (by omega) (by rw [List.length_map]; omega) ?_)
      refine TL.nil ?_
      refine T.region ?_
      refine TL.cons rfl (V1.t (V1.add (c := ((i + 1 : Nat) : Int)) rfl rfl (by rw [wrap_i64 _ (by omega) (by omega)]; omega)) ?_)
      refine TL.cons rfl (V1.t (V1.move' z_C) ?_)
      refine TL.nil ?_
      exact ⟨(i + 1, ys.set i (x ^^^ UInt8.ofNat 255), [⟨bb, off, (ys.set i (x ^^^ UInt8.ofNat 255)).map byteV, size⟩]), _, _, (by simp only; omega), (.cons rfl .nil), (.cons rfl (.cons rfl (.cons rfl (.cons rfl (.cons rfl .nil))))), z_A, ⟨rfl, Sl.mk (by simp only [List.length_map, List.length_set]; omega) hcap hsz, by simp only; omega, by simp only [List.length_set]; exact hyl⟩⟩
    ·
      refine TL.nil ?_
      refine T.seq ?_
      refine T.cond_f rfl ?_
      refine T.exit ?_
      refine T.seq ?_
      refine T.region ?_
      refine TL.cons rfl (V1.t (V1.move' z_C) ?_)
      refine TL.cons rfl (T1.callM («as» := [.pointer (some ⟨p, 0, none⟩), u32V 1, .int .i64 0]) (X := X3) has_13 rfl rfl (Take_any w0 hS3 1 0) z_A z_E (fun v_ Y5 hv => ?_))
      obtain ⟨Yf1, X4, rfl, hS4, hT⟩ := hv
      rw [own_take1] at hS4 hT
      obtain ⟨sb, rfl, hsb⟩ := hT
      obtain ⟨ba, bc, rfl⟩ := hsb.of (n := le.length) (by simp) (by decide)
      simp only [List.append_assoc]
      refine TL.cons rfl (V1.t (V1.move' z_C) ?_)
      refine TL.cons rfl (V1.t (V1.extract rfl (by rfl)) ?_)
      refine TL.cons rfl (V1.t (V1.extract rfl (by rfl)) ?_)
      refine TL.cons rfl (V1.t (V1.assign' z_C) ?_)
      refine TL.cons rfl (V1.t (V1.assign' z_C) ?_)
      refine TL.nil ?_
      refine T.seq ?_
      refine T.region ?_
      refine TL.cons rfl (V1.t (V1.move' z_C) ?_)
      refine TL.cons rfl (T1.callM («as» := [.pointer (some ⟨p, 0, none⟩), u32V 1, .int .i64 0]) (X := X4) has_13 rfl rfl (Take_any w0 hS4 1 0) z_A z_E (fun v_ Y5 hv => ?_))
      obtain ⟨Yf2, X5, rfl, hS5, hT⟩ := hv
      rw [own_take2] at hS5 hT
      obtain ⟨sb2, rfl, hsb2⟩ := hT
      obtain ⟨ba2, bc2, rfl⟩ := hsb2.of (n := l.length) (by simp) (by decide)
      simp only [List.append_assoc]
      refine TL.cons rfl (V1.t (V1.move' z_C) ?_)
      refine TL.cons rfl (V1.t (V1.extract rfl (by rfl)) ?_)
      refine TL.cons rfl (V1.t (V1.extract rfl (by rfl)) ?_)
      refine TL.cons rfl (V1.t (V1.assign' z_C) ?_)
      refine TL.cons rfl (V1.t (V1.assign' z_C) ?_)
      refine TL.nil ?_
      refine T.seq ?_
      refine T.live (l := [(0, _), (3, _), (5, _), (8, _), (10, _)]) (.cons z_C (.cons z_C (.cons z_C (.cons z_C (.cons z_C .nil))))) (fun e_ => ?_)
      refine T.region ?_
      refine TL.cons rfl (V1.t (V1.move' z_C) ?_)
      refine TL.cons rfl (T1.callC (Ps := Yf1) has_14 rfl rfl (Decode_G w0 (l := le) (hsb.row1 le.length (by simp)) (by omega)) z_E (fun v_ Yd hd => ?_))
      unfold decR at hd
      rw [hdec] at hd
      obtain ⟨sk, sn, ss, sd, Yk, Yn, Ys, Yx, rfl, hk, hnn, hss, hdd, rfl⟩ := hd
      obtain ⟨dda, ddc, rfl⟩ := hdd.of (n := l.length) (by simp) (by decide)
      simp only [List.append_assoc, List.cons_append, List.nil_append]
      refine TL.cons rfl (V1.t (V1.move' z_C) ?_)
      refine TL.cons rfl (V1.t (V1.extract rfl (by rfl)) ?_)
      refine TL.cons rfl (V1.t (V1.extract rfl (by rfl)) ?_)
      refine TL.cons rfl (T1.allocN 5 zr_39 rfl (fun b12 => ?_))
      refine TL.cons rfl (T1.storeN (vs := [.int .i64 7, sk, sn, ss, .slice dda l.length ddc]) rfl rfl sz_39 (by intro u hu; simp only [List.mem_cons, List.not_mem_nil, or_false] at hu; rcases hu with rfl | rfl | rfl | rfl | rfl; rfl; exact hk.one; exact hnn.one; exact hss.one; exact hdd.one) z_G (by rfl) (by rfl) ?_)
      refine TL.cons rfl (V1.t (V1.assign' z_C) ?_)
      refine TL.nil ?_
      refine T.seq ?_
      refine T.seq ?_
      refine T.region ?_
      refine TL.cons rfl (V1.t (V1.move' z_C) ?_)
      refine TL.cons rfl (V1.t (V1.neI (r := false) rfl rfl rfl) ?_)
      refine TL.cons rfl (V1.t (V1.move' z_C) ?_)
      refine TL.cons rfl (V1.t (V1.fieldAddr fl_39_4 rfl) ?_)
      refine TL.cons rfl (V1.t (V1.load1 one_29 rfl (.own z_D (by rfl))) ?_)
      refine TL.cons rfl (V1.t (V1.bytesToStr (l := l) ty_29 ty_5 ty_9 rfl ((hdd.row1 l.length (by simp)).row.src _ rfl rfl _ z_E) (by intro b h; cases h)) ?_)
      refine TL.cons rfl (V1.t (V1.move' z_C) ?_)
      refine TL.cons rfl (V1.t (V1.bytesToStr (l := l) ty_29 ty_5 ty_9 rfl (hb.src rfl) (by intro b h; cases h)) ?_)
      refine TL.cons rfl (V1.t (V1.neS (r := false) rfl rfl (decide_eq_false (fun h => h rfl))) ?_)
      refine TL.cons rfl (V1.t (V1.pick rfl z_C) ?_)
      refine TL.cons rfl (V1.t (V1.move' z_C) ?_)
      refine TL.cons rfl (V1.t (V1.move' z_C) ?_)
      refine TL.cons rfl (V1.t (V1.bytesToStr (l := l) ty_29 ty_5 ty_9 rfl ((hsb2.row1 l.length (by simp)).row.src _ rfl rfl _ z_E) (by intro b h; cases h)) ?_)
      refine TL.cons rfl (V1.t (V1.move' z_C) ?_)
      refine TL.cons rfl (V1.t (V1.bytesToStr (l := l) ty_29 ty_5 ty_9 rfl (hb.src rfl) (by intro b h; cases h)) ?_)
      refine TL.cons rfl (V1.t (V1.neS (r := false) rfl rfl (decide_eq_false (fun h => h rfl))) ?_)
      refine TL.cons rfl (V1.t (V1.pick rfl z_C) ?_)
      refine TL.nil ?_
      refine T.cond_f rfl ?_
      refine T.skip ?_
      refine T.seq ?_
      refine T.live (l := [(3, _), (5, _)]) (.cons z_C (.cons z_C .nil)) (fun e_ => ?_)
      refine T.drawM (FL [MV (.pointer (some ⟨b3, 0 + 0, none⟩)), MV (.int .i64 f.kind), ME, MV (.pointer (some ⟨b3, 0 + 1, none⟩)), MV (.slice vka f.keys.length vkc), MApp 32 f.keys.length (f.keys.flatten.map byteV), ME, MV (.pointer (some ⟨b3, 0 + 2, none⟩)), MV (.slice vna f.nums.length vnc), MApp 1 f.nums.length (f.nums.map u32V), ME, MV (.pointer (some ⟨b3, 0 + 3, none⟩)), MV (.slice vxa f.sigs.length vxc), MApp 64 f.sigs.length (f.sigs.flatten.map byteV), ME, MV (.pointer (some ⟨b3, 0 + 4, none⟩)), MV (.slice vda f.data.length vdc), MApp 1 f.data.length (f.data.map byteV), MFrm f, MPtr zF, MT]) 20 mixed (by decide +kernel) (by decide +kernel) (FMono.at (.cons MV.mono (.cons MV.mono (.cons ME.mono (.cons MV.mono (.cons MV.mono (.cons MApp.mono (.cons ME.mono (.cons MV.mono (.cons MV.mono (.cons MApp.mono (.cons ME.mono (.cons MV.mono (.cons MV.mono (.cons MApp.mono (.cons ME.mono (.cons MV.mono (.cons MV.mono (.cons MApp.mono (.cons MFrm.mono (.cons MPtr.mono (.cons MT.mono .nil)))))))))))))))))))))) ?_ ?_
      ·
        refine MOps.cons (fun e_ Y_ hp_ hs_ => ?_) ?_
        ·
          refine MOp.of (tr := [(3, _)]) (.cons ((hs_ 3 (by rfl)).trans z_C) .nil) ?_
          refine V1.t (V1.fieldAddr fl_39_0 rfl) ?_
          exact ⟨_, [], rfl, rfl, rfl⟩
        refine MOps.cons (fun e_ Y_ hp_ hs_ => ?_) ?_
        ·
          refine MOp.of (tr := [(97, _)]) (.cons (show MV (.pointer (some ⟨b3, 0 + 0, none⟩)) (e_ 97) Y_ from hp_ 0 97 (by rfl) (by rfl)) .nil) ?_
          refine V1.t (V1.load1 one_3 rfl (.own (cells := [.int .i64 f.kind, .slice vka f.keys.length vkc, .slice vna f.nums.length vnc, .slice vxa f.sigs.length vxc, .slice vda f.data.length vdc]) z_D (by rfl))) ?_
          exact ⟨_, [], rfl, rfl, rfl⟩
        refine MOps.cons (fun e_ Y_ hp_ hs_ => ?_) ?_
        ·
          refine MOp.of (tr := []) .nil ?_
          refine T1.buildNone0 ty_35 sz_60 zr_60 (fun b99 => ?_)
          exact ⟨_, [⟨b99, 0, [], 0⟩], rfl, rfl, ⟨b99, rfl⟩⟩
        refine MOps.cons (fun e_ Y_ hp_ hs_ => ?_) ?_
        ·
          refine MOp.of (tr := [(3, _)]) (.cons ((hs_ 3 (by rfl)).trans z_C) .nil) ?_
          refine V1.t (V1.fieldAddr fl_39_1 rfl) ?_
          exact ⟨_, [], rfl, rfl, rfl⟩
        refine MOps.cons (fun e_ Y_ hp_ hs_ => ?_) ?_
        ·
          refine MOp.of (tr := [(100, _)]) (.cons (show MV (.pointer (some ⟨b3, 0 + 1, none⟩)) (e_ 100) Y_ from hp_ 3 100 (by rfl) (by rfl)) .nil) ?_
          refine V1.t (V1.load1 one_35 rfl (.own (cells := [.int .i64 f.kind, .slice vka f.keys.length vkc, .slice vna f.nums.length vnc, .slice vxa f.sigs.length vxc, .slice vda f.data.length vdc]) z_D (by rfl))) ?_
          exact ⟨_, [], rfl, rfl, rfl⟩
        refine MOps.cons (fun e_ Y_ hp_ hs_ => ?_) ?_
        ·
          obtain ⟨ek, hke⟩ := (show (ME) (e_ 99) Y_ from hp_ 2 99 (by rfl) (by rfl))
          refine MOp.of (tr := [(99, _), (101, _)]) (.cons hke (.cons (show MV (.slice vka f.keys.length vkc) (e_ 101) Y_ from hp_ 4 101 (by rfl) (by rfl)) .nil)) ?_
          refine T1.appendOdd ty_35 kd_35 sz_60 by_60 zr_60 rfl (by decide) (by decide) rfl rfl (hKs.src rfl) (one_bytes _) (by omega) (fun s_ Ls_ q_ => ?_)
          exact ⟨_, Ls_, rfl, rfl, MApp.new q_ (flat_mul _ fr.hkeys) (by decide)⟩
        refine MOps.cons (fun e_ Y_ hp_ hs_ => ?_) ?_
        ·
          refine MOp.of (tr := []) .nil ?_
          refine T1.buildNone0 ty_36 sz_27 zr_27 (fun b103 => ?_)
          exact ⟨_, [⟨b103, 0, [], 0⟩], rfl, rfl, ⟨b103, rfl⟩⟩
        refine MOps.cons (fun e_ Y_ hp_ hs_ => ?_) ?_
        ·
          refine MOp.of (tr := [(3, _)]) (.cons ((hs_ 3 (by rfl)).trans z_C) .nil) ?_
          refine V1.t (V1.fieldAddr fl_39_2 rfl) ?_
          exact ⟨_, [], rfl, rfl, rfl⟩
        refine MOps.cons (fun e_ Y_ hp_ hs_ => ?_) ?_
        ·
          refine MOp.of (tr := [(104, _)]) (.cons (show MV (.pointer (some ⟨b3, 0 + 2, none⟩)) (e_ 104) Y_ from hp_ 7 104 (by rfl) (by rfl)) .nil) ?_
          refine V1.t (V1.load1 one_36 rfl (.own (cells := [.int .i64 f.kind, .slice vka f.keys.length vkc, .slice vna f.nums.length vnc, .slice vxa f.sigs.length vxc, .slice vda f.data.length vdc]) z_D (by rfl))) ?_
          exact ⟨_, [], rfl, rfl, rfl⟩
        refine MOps.cons (fun e_ Y_ hp_ hs_ => ?_) ?_
        ·
          obtain ⟨en, hne⟩ := (show (ME) (e_ 103) Y_ from hp_ 6 103 (by rfl) (by rfl))
          refine MOp.of (tr := [(103, _), (105, _)]) (.cons hne (.cons (show MV (.slice vna f.nums.length vnc) (e_ 105) Y_ from hp_ 8 105 (by rfl) (by rfl)) .nil)) ?_
          refine T1.appendOdd ty_36 kd_36 sz_27 by_27 zr_27 rfl (by decide) (by decide) rfl rfl (hNs.src rfl) (u32_ones _) (by omega) (fun s_ Ls_ q_ => ?_)
          exact ⟨_, Ls_, rfl, rfl, MApp.new q_ (by simp) (by decide)⟩
        refine MOps.cons (fun e_ Y_ hp_ hs_ => ?_) ?_
        ·
          refine MOp.of (tr := []) .nil ?_
          refine T1.buildNone0 ty_37 sz_86 zr_86 (fun b107 => ?_)
          exact ⟨_, [⟨b107, 0, [], 0⟩], rfl, rfl, ⟨b107, rfl⟩⟩
        refine MOps.cons (fun e_ Y_ hp_ hs_ => ?_) ?_
        ·
          refine MOp.of (tr := [(3, _)]) (.cons ((hs_ 3 (by rfl)).trans z_C) .nil) ?_
          refine V1.t (V1.fieldAddr fl_39_3 rfl) ?_
          exact ⟨_, [], rfl, rfl, rfl⟩
        refine MOps.cons (fun e_ Y_ hp_ hs_ => ?_) ?_
        ·
          refine MOp.of (tr := [(108, _)]) (.cons (show MV (.pointer (some ⟨b3, 0 + 3, none⟩)) (e_ 108) Y_ from hp_ 11 108 (by rfl) (by rfl)) .nil) ?_
          refine V1.t (V1.load1 one_37 rfl (.own (cells := [.int .i64 f.kind, .slice vka f.keys.length vkc, .slice vna f.nums.length vnc, .slice vxa f.sigs.length vxc, .slice vda f.data.length vdc]) z_D (by rfl))) ?_
          exact ⟨_, [], rfl, rfl, rfl⟩
        refine MOps.cons (fun e_ Y_ hp_ hs_ => ?_) ?_
        ·
          obtain ⟨ex, hxe⟩ := (show (ME) (e_ 107) Y_ from hp_ 10 107 (by rfl) (by rfl))
          refine MOp.of (tr := [(107, _), (109, _)]) (.cons hxe (.cons (show MV (.slice vxa f.sigs.length vxc) (e_ 109) Y_ from hp_ 12 109 (by rfl) (by rfl)) .nil)) ?_
          refine T1.appendOdd ty_37 kd_37 sz_86 by_86 zr_86 rfl (by decide) (by decide) rfl rfl (hXs.src rfl) (one_bytes _) (by omega) (fun s_ Ls_ q_ => ?_)
          exact ⟨_, Ls_, rfl, rfl, MApp.new q_ (flat_mul _ fr.hsigs) (by decide)⟩
        refine MOps.cons (fun e_ Y_ hp_ hs_ => ?_) ?_
        ·
          refine MOp.of (tr := []) .nil ?_
          refine T1.buildNone0 ty_29 sz_5 zr_5 (fun b111 => ?_)
          exact ⟨_, [⟨b111, 0, [], 0⟩], rfl, rfl, ⟨b111, rfl⟩⟩
        refine MOps.cons (fun e_ Y_ hp_ hs_ => ?_) ?_
        ·
          refine MOp.of (tr := [(3, _)]) (.cons ((hs_ 3 (by rfl)).trans z_C) .nil) ?_
          refine V1.t (V1.fieldAddr fl_39_4 rfl) ?_
          exact ⟨_, [], rfl, rfl, rfl⟩
        refine MOps.cons (fun e_ Y_ hp_ hs_ => ?_) ?_
        ·
          refine MOp.of (tr := [(112, _)]) (.cons (show MV (.pointer (some ⟨b3, 0 + 4, none⟩)) (e_ 112) Y_ from hp_ 15 112 (by rfl) (by rfl)) .nil) ?_
          refine V1.t (V1.load1 one_29 rfl (.own (cells := [.int .i64 f.kind, .slice vka f.keys.length vkc, .slice vna f.nums.length vnc, .slice vxa f.sigs.length vxc, .slice vda f.data.length vdc]) z_D (by rfl))) ?_
          exact ⟨_, [], rfl, rfl, rfl⟩
        refine MOps.cons (fun e_ Y_ hp_ hs_ => ?_) ?_
        ·
          obtain ⟨ed, hde⟩ := (show (ME) (e_ 111) Y_ from hp_ 14 111 (by rfl) (by rfl))
          refine MOp.of (tr := [(111, _), (113, _)]) (.cons hde (.cons (show MV (.slice vda f.data.length vdc) (e_ 113) Y_ from hp_ 16 113 (by rfl) (by rfl)) .nil)) ?_
          refine T1.appendOdd ty_29 kd_29 sz_5 by_5 zr_5 rfl (by decide) (by decide) rfl rfl (hDs.src rfl) (one_bytes _) (by omega) (fun s_ Ls_ q_ => ?_)
          exact ⟨_, Ls_, rfl, rfl, MApp.new q_ (by simp) (by decide)⟩
        refine MOps.cons (fun e_ Y_ hp_ hs_ => ?_) ?_
        ·
          obtain ⟨ak, ck, Lk, Yk, hk, pk, qk⟩ := (show (MApp 32 f.keys.length (f.keys.flatten.map byteV)) (e_ 102) Y_ from hp_ 5 102 (by rfl) (by rfl))
          obtain ⟨an, cn, Ln, Yn, hn, pn, qn⟩ := (show (MApp 1 f.nums.length (f.nums.map u32V)) (e_ 106) Y_ from hp_ 9 106 (by rfl) (by rfl))
          obtain ⟨ax, cx, Lx, Yx, hx, px, qx⟩ := (show (MApp 64 f.sigs.length (f.sigs.flatten.map byteV)) (e_ 110) Y_ from hp_ 13 110 (by rfl) (by rfl))
          obtain ⟨ad, cd, Ld, Yd, hd, pd, qd⟩ := (show (MApp 1 f.data.length (f.data.map byteV)) (e_ 114) Y_ from hp_ 17 114 (by rfl) (by rfl))
          refine MOp.of (tr := [(98, _), (102, _), (106, _), (110, _), (114, _)]) (.cons (show MV (.int .i64 f.kind) (e_ 98) Y_ from hp_ 1 98 (by rfl) (by rfl)) (.cons hk (.cons hn (.cons hx (.cons hd .nil))))) ?_
          refine V1.t (V1.buildF pl_39 zr_39 (.one rfl z_C rfl (.one rfl z_C rfl (.one rfl z_C rfl (.one rfl z_C rfl (.one rfl z_C rfl .nil))))) z_I) ?_
          exact ⟨_, [], rfl, rfl, ⟨_, _, _, _, _, _, _, _, Lk, _, Ln, _, Lx, _, Ld, _, rfl, ⟨pk, qk⟩, ⟨pn, qn⟩, ⟨px, qx⟩, ⟨pd, qd⟩⟩⟩
        refine MOps.cons (fun e_ Y_ hp_ hs_ => ?_) ?_
        ·
          refine MOp.of (tr := []) .nil ?_
          refine T1.allocN 5 zr_39 rfl (fun bn => ?_)
          exact ⟨_, [⟨bn, 0, zF, 5⟩], rfl, rfl, ⟨bn, _, rfl, List.Perm.refl _⟩⟩
        refine MOps.last ?_
        exact MOps.nil
      · intro e_ Y_ hp_ hs_
        obtain ⟨b14, Y14, h14, p14⟩ := (show (MPtr zF) (e_ 14) Y_ from hp_ 19 14 (by decide) (by rfl))
        obtain ⟨ka, kc, na, nc, sa, sc, da, dc, Lk, Yk, Ln, Yn, Lx, Yx, Ld, Yd, hfm, ⟨pk, qk⟩, ⟨pn, qn⟩, ⟨px, qx⟩, ⟨pd, qd⟩⟩ := (show (MFrm f) (e_ 115) Y_ from hp_ 18 115 (by decide) (by rfl))
        refine T1.known (tr := [(3, _), (5, _), (14, _), (115, _)]) (.cons ((hs_ 3 (by rfl)).trans z_C) (.cons ((hs_ 5 (by rfl)).trans z_C) (.cons h14 (.cons hfm .nil)))) ?_
        refine T1.storeY (vs := [.int .i64 f.kind, .slice ka f.keys.length kc, .slice na f.nums.length nc, .slice sa f.sigs.length sc, .slice da f.data.length dc]) rfl rfl sz_39 (by intro u hu; simp only [List.mem_cons, List.not_mem_nil, or_false] at hu; rcases hu with rfl | rfl | rfl | rfl | rfl <;> rfl) p14 pk (notin qk (byte_no _)) rfl rfl (fun Y3 hY3 => ?_)
        have iN : Inc Ln (Lk ++ Y3) := inc_rest pn hY3 (notin qn (u32_no _))
        have iX : Inc Lx (Lk ++ Y3) := inc_rest px hY3 (notin qx (byte_no _))
        have iD : Inc Ld (Lk ++ Y3) := inc_rest pd hY3 (notin qd (byte_no _))
        have hFR : FrmR w0 (Lk ++ Y3) (.agg (List.toArray [.int .i64 f.kind, .slice ka f.keys.length kc, .slice na f.nums.length nc, .slice sa f.sigs.length sc, .slice da f.data.length dc])) f := ⟨⟨_, _, _, _, rfl, qk.row w0 Inc.here (by decide) _ (flat_mul _ fr.hkeys), qn.row w0 iN (by decide) _ (by simp), qx.row w0 iX (by decide) _ (flat_mul _ fr.hsigs), (qd.row w0 iD (by decide) _ (by simp)).row⟩, ⟨fr.hkeys, fr.hnums, fr.hsigs⟩⟩
        refine T.seq ?_
        refine T.seq ?_
        refine T.region ?_
        refine TL.cons rfl (V1.t (V1.move' z_C) ?_)
        refine TL.cons rfl (V1.t (V1.loadN (vs := [.int .i64 f.kind, .slice ka f.keys.length kc, .slice na f.nums.length nc, .slice sa f.sigs.length sc, .slice da f.data.length dc]) one_39 sz_39 rfl (RdN.whole z_D) (by rfl)) ?_)
        refine TL.cons rfl (T1.callM («as» := [.pointer (some ⟨p, 0, none⟩), u32V 1, .agg (List.toArray [.int .i64 f.kind, .slice ka f.keys.length kc, .slice na f.nums.length nc, .slice sa f.sigs.length sc, .slice da f.data.length dc]), .slice none 0 0]) (X := X5) has_16 rfl rfl (Publish_any w0 (Lk ++ Y3) hS5 1 (o := f) hFR (fs := []) (css := []) ⟨RowR.nil, rfl, by simp, by simp⟩ (by decide)) z_A z_E (fun v_ X6 hv => ?_))
        obtain ⟨hv, hS6⟩ := hv
        rcases hbu : f.bundle with _ | _
        ·
          rw [own_bad hbu] at hv hS6
          subst hv
          refine TL.cons rfl (V1.t (V1.neI (r := true) rfl rfl rfl) ?_)
          refine TL.nil ?_
          refine T.cond_t rfl ?_
          refine T.seq ?_
          refine T.region ?_
          refine TL.cons rfl (V1.t (V1.assign' z_C) ?_)
          refine TL.nil ?_
          refine T.ret ?_
          exact ⟨_, G, _, .cons (.tmp z_C) .nil, z_A, rfl, rfl⟩
        ·
          rw [own_pub hbu] at hv hS6
          subst hv
          have hfew := Frm.bundle_few hbu
          have hfk := hfew.keys
          refine TL.cons rfl (V1.t (V1.neI (r := false) rfl rfl rfl) ?_)
          refine TL.nil ?_
          refine T.cond_f rfl ?_
          refine T.skip ?_
          refine T.seq ?_
          refine T.seq ?_
          refine T.region ?_
          refine TL.cons rfl (V1.t (V1.fieldAddr fl_39_1 rfl) ?_)
          refine TL.cons rfl (V1.t (V1.load1 one_35 rfl (.own (cells := [.int .i64 f.kind, .slice ka f.keys.length kc, .slice na f.nums.length nc, .slice sa f.sigs.length sc, .slice da f.data.length dc]) z_D (by rfl))) ?_)
          refine TL.cons rfl (V1.t (V1.lenSl ty_35 rfl) ?_)
          refine TL.cons rfl (V1.t (V1.move' z_C) ?_)
          refine TL.nil ?_
          refine T.block ?_
          refine T.loopL (σ := Nat × List UInt8 × List Blk) (l0 := [(3, _), (5, _), (14, _), (122, _)]) (fun x => [(123, .int .i64 (x.1 : Nat))]) (fun x L => L = (⟨b14, 0, [.int .i64 f.kind, .slice ka f.keys.length kc, .slice na f.nums.length nc, .slice sa f.sigs.length sc, .slice da f.data.length dc], 5⟩ : Blk) :: (x.2.2 ++ (X6 ++ ((⟨b3, 0, [.int .i64 f.kind, .slice vka f.keys.length vkc, .slice vna f.nums.length vnc, .slice vxa f.sigs.length vxc, .slice vda f.data.length vdc], 5⟩ : Blk) :: G))) ∧ SlE (.slice ka f.keys.length kc) (x.2.1.map byteV) 32 x.2.2 ∧ x.1 ≤ f.keys.length ∧ x.2.1.length = f.keys.length * 32) (fun x => f.keys.length - x.1) (0, f.keys.flatten, Lk) (.cons rfl .nil) (.cons z_C (.cons z_C (.cons z_C (.cons z_C .nil)))) z_A (⟨rfl, qk, Nat.zero_le _, flat_len _ fr.hkeys⟩) ?_
          rintro ⟨i, xs, Lx⟩ e_ L ⟨rfl, hxs, hle, hxl⟩
          dsimp only at hxs hle hxl
          dsimp only
          refine T.seq ?_
          refine T.region ?_
          refine TL.cons rfl (T1.ltI_split rfl rfl (fun h23_0 => ?_) (fun h23_0 => ?_))
          ·
            obtain ⟨kb, ko, ksz, rfl, hxl2, hkc, hks, rfl⟩ := hxs.block (by omega)
            obtain ⟨y, hy⟩ : ∃ y, xs[i * 32]? = some y := ⟨_, List.getElem?_eq_getElem (by omega)⟩
            refine TL.nil ?_
            refine T.seq ?_
            refine T.cond_t rfl ?_
            refine T.skip ?_
            refine T.seq ?_
            refine T.block ?_
            refine T.seq ?_
            refine T.region ?_
            refine TL.cons rfl (V1.t (V1.move' z_C) ?_)
            refine TL.cons rfl (V1.t (V1.assign' z_C) ?_)
            refine TL.nil ?_
            refine T.drawTail 9 mixed (by decide +kernel) (by rfl) (by decide +kernel) rfl ?_
            refine Det.cons 0 (ins := [(14, _)]) (.old z_C (by decide +kernel) .nil) (fun e_ => .inl ⟨rfl, V1.t (V1.fieldAddr fl_39_1 rfl) ⟨rfl, rfl⟩⟩) ?_
            refine Det.cons 1 (ins := [(126, _)]) (.new 0 0 (by decide +kernel) rfl rfl .nil) (fun e_ => .inl ⟨rfl, V1.t (V1.load1 one_35 rfl (.own (cells := [.int .i64 f.kind, .slice (some ⟨kb, ko, none⟩) f.keys.length kc, .slice na f.nums.length nc, .slice sa f.sigs.length sc, .slice da f.data.length dc]) z_D (by rfl))) ⟨rfl, rfl⟩⟩) ?_
            refine Det.cons 2 (ins := [(15, _)]) (.old z_C (by decide +kernel) .nil) (fun e_ => .inl ⟨rfl, V1.t (V1.move' z_C) ⟨rfl, rfl⟩⟩) ?_
            refine Det.cons 3 (ins := [(127, _), (128, _)]) (.new 1 1 (by decide +kernel) rfl rfl (.new 2 0 (by decide +kernel) rfl rfl .nil)) (fun e_ => .inl ⟨rfl, V1.t (V1.indexAddrS ty_35 sz_60 rfl rfl (by omega) (by omega)) ⟨rfl, rfl⟩⟩) ?_
            refine Det.cons 4 (ins := [(129, _)]) (.new 3 0 (by decide +kernel) rfl rfl .nil) (fun e_ => .inl ⟨rfl, V1.t (V1.indexAddrA ty_60 sz_5 rfl rfl (by decide) (by decide)) ⟨rfl, rfl⟩⟩) ?_
            refine Det.cons 5 (ins := [(130, _)]) (.new 4 0 (by decide +kernel) rfl rfl .nil) (fun e_ => .inl ⟨rfl, V1.t (V1.load1 (v := byteV y) one_5 rfl (show Rd _ _ ⟨kb, ko + i * 32 + 0 * 1, none⟩ (byteV y) from (show Rd _ _ ⟨kb, ko + i * 32, none⟩ (byteV y) from Rd.at (cells := xs.map byteV) (size := ksz) z_D (by rw [List.getElem?_map, hy]; rfl)))) ⟨rfl, rfl⟩⟩) ?_
            refine Det.cons 6 (ins := [(131, _)]) (.new 5 0 (by decide +kernel) rfl rfl .nil) (fun e_ => .inl ⟨rfl, V1.t (V1.add (c := ((y + 1).toNat : Int)) rfl rfl (addB1 y)) ⟨rfl, rfl⟩⟩) ?_
            refine Det.cons 7 (ins := [(127, _), (128, _)]) (.new 1 5 (by decide +kernel) rfl rfl (.new 2 4 (by decide +kernel) rfl rfl .nil)) (fun e_ => .inl ⟨rfl, V1.t (V1.indexAddrS ty_35 sz_60 rfl rfl (by omega) (by omega)) ⟨rfl, rfl⟩⟩) ?_
            refine Det.cons 8 (ins := [(133, _)]) (.new 7 0 (by decide +kernel) rfl rfl .nil) (fun e_ => .inl ⟨rfl, V1.t (V1.indexAddrA ty_60 sz_5 rfl rfl (by decide) (by decide)) ⟨rfl, rfl⟩⟩) ?_
            refine Det.nil 9 (l := [(3, _), (5, _), (14, _), (122, _), (123, _), (132, _), (134, _)]) (.old z_C (by decide +kernel) (.old z_C (by decide +kernel) (.old z_C (by decide +kernel) (.old z_C (by decide +kernel) (.old z_C (by decide +kernel) (.new 6 2 (by decide +kernel) rfl rfl (.new 8 0 (by decide +kernel) rfl rfl .nil))))))) (fun e_ => ?_)
            refine (show TU _ _ _ 1 _ _ _ from ?_)
            refine TU.one 9 (by decide +kernel) rfl rfl (T1.storeE (o := ko + i * 32 + 0 * 1) (cells := xs.map byteV) (cells' := (xs.set (i * 32) (y + 1)).map byteV) rfl rfl sz_5 rfl (by rw [show ko + i * 32 + 0 * 1 - ko = i * 32 from by omega, List.map_set]; rfl) z_G (by omega) (by rw [List.length_map]; omega) ?_)
            refine TU.done (by decide +kernel) ?_
            refine T.region ?_
            refine TL.cons rfl (V1.t (V1.add (c := ((i + 1 : Nat) : Int)) rfl rfl (by rw [wrap_i64 _ (by omega) (by omega)]; omega)) ?_)
            refine TL.cons rfl (V1.t (V1.move' z_C) ?_)
            refine TL.nil ?_
            exact ⟨(i + 1, xs.set (i * 32) (y + 1), [⟨kb, ko, (xs.set (i * 32) (y + 1)).map byteV, ksz⟩]), _, _, (by simp only; omega), (.cons rfl .nil), (.cons rfl (.cons rfl (.cons rfl (.cons rfl .nil)))), z_A, ⟨rfl, .inl (Sl.mk (by simp only [List.length_map, List.length_set]; omega) hkc hks), by simp only; omega, by simp only [List.length_set]; exact hxl⟩⟩
          ·
            refine TL.nil ?_
            refine T.seq ?_
            refine T.cond_f rfl ?_
            refine T.exit ?_
            refine T.seq ?_
            refine T.region ?_
            refine TL.cons rfl (V1.t (V1.move' z_C) ?_)
            refine TL.cons rfl (T1.callM («as» := [.pointer (some ⟨p, 0, none⟩), u32V 1]) (X := X6) has_18 rfl rfl (Fetch_any w0 hS6 1) z_A z_E (fun v_ Yt hv => ?_))
            obtain ⟨Yg1, X7, rfl, hS7, hT⟩ := hv
            rw [own_fetch] at hS7 hT
            obtain ⟨cg, rfl, hg⟩ := hT
            obtain ⟨sk1, sn1, sx1, sd1, K1, N1, S1, D1, rfl, hk1, hn1, hx1, hd1, rfl⟩ := hg
            obtain ⟨ka1, kc1, rfl⟩ := hk1.of (n := f.keys.length) (flat_mul _ fr.hkeys) (by decide)
            simp only [List.append_assoc, List.cons_append, List.nil_append]
            refine TL.cons rfl (V1.t (V1.move' z_C) ?_)
            refine TL.cons rfl (V1.t (V1.extract rfl (by rfl)) ?_)
            refine TL.cons rfl (V1.t (V1.extract rfl (by rfl)) ?_)
            refine TL.cons rfl (T1.allocN 5 zr_39 rfl (fun b16 => ?_))
            refine TL.cons rfl (T1.storeN (vs := [.int .i64 f.kind, .slice ka1 f.keys.length kc1, sn1, sx1, sd1]) rfl rfl sz_39 (by intro u hu; simp only [List.mem_cons, List.not_mem_nil, or_false] at hu; rcases hu with rfl | rfl | rfl | rfl | rfl; rfl; exact hk1.one; exact hn1.one; exact hx1.one; exact hd1.one) z_G (by rfl) (by rfl) ?_)
            refine TL.cons rfl (V1.t (V1.assign' z_C) ?_)
            refine TL.nil ?_
            refine T.seq ?_
            refine T.region ?_
            refine TL.cons rfl (V1.t (V1.loadN (vs := [.int .i64 f.kind, .slice ka1 f.keys.length kc1, sn1, sx1, sd1]) one_39 sz_39 rfl (RdN.whole z_D) (by rfl)) ?_)
            refine TL.cons rfl (V1.t (V1.loadN (vs := [.int .i64 f.kind, .slice vka f.keys.length vkc, .slice vna f.nums.length vnc, .slice vxa f.sigs.length vxc, .slice vda f.data.length vdc]) one_39 sz_39 rfl (RdN.whole z_D) (by rfl)) ?_)
            refine TL.cons rfl (T1.call0 has_24 rfl (fun w hs => Same_any _ _ _ _ _ _ _ _ _ _ _ _ w (FrIs.own hs ⟨fr.hkeys, fr.hnums, fr.hsigs, fr.hlen⟩ hk1 z_B hn1 z_B hx1 z_B hd1 z_B) (fr.st rfl hs)) (fun v hv => ?_))
            obtain ⟨r, rfl, hr⟩ := hv
            obtain rfl : r = true := hr.2 ⟨rfl, rfl, rfl, rfl, rfl⟩
            refine TL.cons rfl (V1.t (V1.assign' z_C) ?_)
            refine TL.nil ?_
            refine T.seq ?_
            refine T.seq ?_
            refine T.region ?_
            refine TL.cons rfl (V1.t (V1.fieldAddr fl_39_1 rfl) ?_)
            refine TL.cons rfl (V1.t (V1.load1 one_35 rfl (.own (cells := [.int .i64 f.kind, .slice ka1 f.keys.length kc1, sn1, sx1, sd1]) z_D (by rfl))) ?_)
            refine TL.cons rfl (V1.t (V1.lenSl ty_35 rfl) ?_)
            refine TL.cons rfl (V1.t (V1.move' z_C) ?_)
            refine TL.nil ?_
            refine T.block ?_
            refine T.loopL (σ := Nat × List UInt8 × List Blk) (l0 := [(3, _), (5, _), (16, _), (18, _), (146, _)]) (fun x => [(147, .int .i64 (x.1 : Nat))]) (fun x L => L = (⟨b16, 0, [.int .i64 f.kind, .slice ka1 f.keys.length kc1, sn1, sx1, sd1], 5⟩ : Blk) :: (x.2.2 ++ (X7 ++ ((⟨b3, 0, [.int .i64 f.kind, .slice vka f.keys.length vkc, .slice vna f.nums.length vnc, .slice vxa f.sigs.length vxc, .slice vda f.data.length vdc], 5⟩ : Blk) :: G))) ∧ SlE (.slice ka1 f.keys.length kc1) (x.2.1.map byteV) 32 x.2.2 ∧ x.1 ≤ f.keys.length ∧ x.2.1.length = f.keys.length * 32) (fun x => f.keys.length - x.1) (0, f.keys.flatten, K1) (.cons rfl .nil) (.cons z_C (.cons z_C (.cons z_C (.cons z_C (.cons z_C .nil))))) z_A (⟨rfl, .inl hk1, Nat.zero_le _, flat_len _ fr.hkeys⟩) ?_
            rintro ⟨i, xs, Lx⟩ e_ L ⟨rfl, hxs, hle, hxl⟩
            dsimp only at hxs hle hxl
            dsimp only
            refine T.seq ?_
            refine T.region ?_
            refine TL.cons rfl (T1.ltI_split rfl rfl (fun h30_0 => ?_) (fun h30_0 => ?_))
            ·
              obtain ⟨kb, ko, ksz, rfl, hxl2, hkc, hks, rfl⟩ := hxs.block (by omega)
              obtain ⟨y, hy⟩ : ∃ y, xs[i * 32]? = some y := ⟨_, List.getElem?_eq_getElem (by omega)⟩
              refine TL.nil ?_
              refine T.seq ?_
              refine T.cond_t rfl ?_
              refine T.skip ?_
              refine T.seq ?_
              refine T.block ?_
              refine T.seq ?_
              refine T.region ?_
              refine TL.cons rfl (V1.t (V1.move' z_C) ?_)
              refine TL.cons rfl (V1.t (V1.assign' z_C) ?_)
              refine TL.nil ?_
              refine T.drawTail 9 mixed (by decide +kernel) (by rfl) (by decide +kernel) rfl ?_
              refine Det.cons 0 (ins := [(16, _)]) (.old z_C (by decide +kernel) .nil) (fun e_ => .inl ⟨rfl, V1.t (V1.fieldAddr fl_39_1 rfl) ⟨rfl, rfl⟩⟩) ?_
              refine Det.cons 1 (ins := [(150, _)]) (.new 0 0 (by decide +kernel) rfl rfl .nil) (fun e_ => .inl ⟨rfl, V1.t (V1.load1 one_35 rfl (.own (cells := [.int .i64 f.kind, .slice (some ⟨kb, ko, none⟩) f.keys.length kc1, sn1, sx1, sd1]) z_D (by rfl))) ⟨rfl, rfl⟩⟩) ?_
              refine Det.cons 2 (ins := [(19, _)]) (.old z_C (by decide +kernel) .nil) (fun e_ => .inl ⟨rfl, V1.t (V1.move' z_C) ⟨rfl, rfl⟩⟩) ?_
              refine Det.cons 3 (ins := [(151, _), (152, _)]) (.new 1 1 (by decide +kernel) rfl rfl (.new 2 0 (by decide +kernel) rfl rfl .nil)) (fun e_ => .inl ⟨rfl, V1.t (V1.indexAddrS ty_35 sz_60 rfl rfl (by omega) (by omega)) ⟨rfl, rfl⟩⟩) ?_
              refine Det.cons 4 (ins := [(153, _)]) (.new 3 0 (by decide +kernel) rfl rfl .nil) (fun e_ => .inl ⟨rfl, V1.t (V1.indexAddrA ty_60 sz_5 rfl rfl (by decide) (by decide)) ⟨rfl, rfl⟩⟩) ?_
              refine Det.cons 5 (ins := [(154, _)]) (.new 4 0 (by decide +kernel) rfl rfl .nil) (fun e_ => .inl ⟨rfl, V1.t (V1.load1 (v := byteV y) one_5 rfl (show Rd _ _ ⟨kb, ko + i * 32 + 0 * 1, none⟩ (byteV y) from (show Rd _ _ ⟨kb, ko + i * 32, none⟩ (byteV y) from Rd.at (cells := xs.map byteV) (size := ksz) z_D (by rw [List.getElem?_map, hy]; rfl)))) ⟨rfl, rfl⟩⟩) ?_
              refine Det.cons 6 (ins := [(155, _)]) (.new 5 0 (by decide +kernel) rfl rfl .nil) (fun e_ => .inl ⟨rfl, V1.t (V1.add (c := ((y + 1).toNat : Int)) rfl rfl (addB1 y)) ⟨rfl, rfl⟩⟩) ?_
              refine Det.cons 7 (ins := [(151, _), (152, _)]) (.new 1 5 (by decide +kernel) rfl rfl (.new 2 4 (by decide +kernel) rfl rfl .nil)) (fun e_ => .inl ⟨rfl, V1.t (V1.indexAddrS ty_35 sz_60 rfl rfl (by omega) (by omega)) ⟨rfl, rfl⟩⟩) ?_
              refine Det.cons 8 (ins := [(157, _)]) (.new 7 0 (by decide +kernel) rfl rfl .nil) (fun e_ => .inl ⟨rfl, V1.t (V1.indexAddrA ty_60 sz_5 rfl rfl (by decide) (by decide)) ⟨rfl, rfl⟩⟩) ?_
              refine Det.nil 9 (l := [(3, _), (5, _), (16, _), (18, _), (146, _), (147, _), (156, _), (158, _)]) (.old z_C (by decide +kernel) (.old z_C (by decide +kernel) (.old z_C (by decide +kernel) (.old z_C (by decide +kernel) (.old z_C (by decide +kernel) (.old z_C (by decide +kernel) (.new 6 2 (by decide +kernel) rfl rfl (.new 8 0 (by decide +kernel) rfl rfl .nil)))))))) (fun e_ => ?_)
              refine (show TU _ _ _ 1 _ _ _ from ?_)
              refine TU.one 9 (by decide +kernel) rfl rfl (T1.storeE (o := ko + i * 32 + 0 * 1) (cells := xs.map byteV) (cells' := (xs.set (i * 32) (y + 1)).map byteV) rfl rfl sz_5 rfl (by rw [show ko + i * 32 + 0 * 1 - ko = i * 32 from by omega, List.map_set]; rfl) z_G (by omega) (by rw [List.length_map]; omega) ?_)
              refine TU.done (by decide +kernel) ?_
              refine T.region ?_
              refine TL.cons rfl (V1.t (V1.add (c := ((i + 1 : Nat) : Int)) rfl rfl (by rw [wrap_i64 _ (by omega) (by omega)]; omega)) ?_)
              refine TL.cons rfl (V1.t (V1.move' z_C) ?_)
              refine TL.nil ?_
              exact ⟨(i + 1, xs.set (i * 32) (y + 1), [⟨kb, ko, (xs.set (i * 32) (y + 1)).map byteV, ksz⟩]), _, _, (by simp only; omega), (.cons rfl .nil), (.cons rfl (.cons rfl (.cons rfl (.cons rfl (.cons rfl .nil))))), z_A, ⟨rfl, .inl (Sl.mk (by simp only [List.length_map, List.length_set]; omega) hkc hks), by simp only; omega, by simp only [List.length_set]; exact hxl⟩⟩
            ·
              refine TL.nil ?_
              refine T.seq ?_
              refine T.cond_f rfl ?_
              refine T.exit ?_
              refine T.seq ?_
              refine T.region ?_
              refine TL.cons rfl (V1.t (V1.move' z_C) ?_)
              refine TL.cons rfl (T1.callM («as» := [.pointer (some ⟨p, 0, none⟩), u32V 1]) (X := X7) has_18 rfl rfl (Fetch_any w0 hS7 1) z_A z_E (fun v_ Yt hv => ?_))
              obtain ⟨Yg2, X8, rfl, hS8, hT⟩ := hv
              rw [own_fetch] at hS8 hT
              obtain ⟨cg, rfl, hg⟩ := hT
              obtain ⟨sk2, sn2, sx2, sd2, K2, N2, S2, D2, rfl, hk2, hn2, hx2, hd2, rfl⟩ := hg
              obtain ⟨ka2, kc2, rfl⟩ := hk2.of (n := f.keys.length) (flat_mul _ fr.hkeys) (by decide)
              simp only [List.append_assoc, List.cons_append, List.nil_append]
              refine TL.cons rfl (V1.t (V1.move' z_C) ?_)
              refine TL.cons rfl (V1.t (V1.extract rfl (by rfl)) ?_)
              refine TL.cons rfl (V1.t (V1.extract rfl (by rfl)) ?_)
              refine TL.cons rfl (T1.allocN 5 zr_39 rfl (fun b20 => ?_))
              refine TL.cons rfl (T1.storeN (vs := [.int .i64 f.kind, .slice ka2 f.keys.length kc2, sn2, sx2, sd2]) rfl rfl sz_39 (by intro u hu; simp only [List.mem_cons, List.not_mem_nil, or_false] at hu; rcases hu with rfl | rfl | rfl | rfl | rfl; rfl; exact hk2.one; exact hn2.one; exact hx2.one; exact hd2.one) z_G (by rfl) (by rfl) ?_)
              refine TL.cons rfl (V1.t (V1.assign' z_C) ?_)
              refine TL.nil ?_
              refine T.seq ?_
              refine T.region ?_
              refine TL.cons rfl (V1.t (V1.move' z_C) ?_)
              refine TL.cons rfl (V1.t (V1.move' z_C) ?_)
              refine TL.cons rfl (V1.t (V1.loadN (vs := [.int .i64 f.kind, .slice ka2 f.keys.length kc2, sn2, sx2, sd2]) one_39 sz_39 rfl (RdN.whole z_D) (by rfl)) ?_)
              refine TL.cons rfl (V1.t (V1.loadN (vs := [.int .i64 f.kind, .slice vka f.keys.length vkc, .slice vna f.nums.length vnc, .slice vxa f.sigs.length vxc, .slice vda f.data.length vdc]) one_39 sz_39 rfl (RdN.whole z_D) (by rfl)) ?_)
              refine TL.cons rfl (T1.call0 has_24 rfl (fun w hs => Same_any _ _ _ _ _ _ _ _ _ _ _ _ w (FrIs.own hs ⟨fr.hkeys, fr.hnums, fr.hsigs, fr.hlen⟩ hk2 z_B hn2 z_B hx2 z_B hd2 z_B) (fr.st rfl hs)) (fun v hv => ?_))
              obtain ⟨r, rfl, hr⟩ := hv
              obtain rfl : r = true := hr.2 ⟨rfl, rfl, rfl, rfl, rfl⟩
              refine TL.cons rfl (V1.t (V1.pick rfl z_C) ?_)
              refine TL.cons rfl (V1.t (V1.assign' z_C) ?_)
              refine TL.nil ?_
              refine T.ret ?_
              exact ⟨_, G, _, .cons (.tmp z_C) .nil, z_A, rfl, rfl⟩

theorem PostOwn_any (v0 v1 : Value) (l : List UInt8) (f : Frm) (w : World) (hb : SlR w v0 1 l.length (l.map byteV)) (fr : FrIs w v1 f.kind f.keys f.nums f.sigs f.data) (hk0 : f.keys.length ≤ 4398046510976) (hn0 : f.nums.length ≤ 35184372087808) (hx0 : f.sigs.length ≤ 2199023255488) (hd0 : f.data.length ≤ 140737488351232) : Fn P 7 [v0, v1] w [] (fun v _ => v = .bool true) :=
  fun _ _ => (PostOwn_us w v0 v1 l f hb fr hk0 hn0 hx0 hd0 [] w Inc.nil (St.refl w)).mono fun _ _ ⟨v, Y, e1, e2, e3⟩ => ⟨v, Y, e1, by simpa using e2, e3.2⟩
end Go.Proofs.Ytijijaobialncaa.S
