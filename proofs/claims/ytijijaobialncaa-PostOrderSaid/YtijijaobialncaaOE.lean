/- In the order in which they were sent: walked. -/
import Derived.Test.YtijijaobialncaaOD
import Derived.Test.YtijijaobialncaaOpen
namespace Go.Proofs.Ytijijaobialncaa.S
open Go.RowKit

set_option maxRecDepth 100000 in
set_option maxHeartbeats 8000000 in
theorem PostOrder_us (w0 : World) (v0 : Value) (svs : List Value) (ts : List (List UInt8)) (hp : PartsIn w0 v0 svs ts) (hpn : ts.length ≤ 9223372036854775807) (onces : Int) : FnV P 4 [v0, .int .i64 onces] w0 [] (fun v => v = .bool true) := by
  obtain ⟨ta, tc, rfl⟩ := hp.form
  refine FnV.of 162 [.tmp 4] Go.Proofs.Try.func4 rfl rfl rfl rfl (fun G hG => ?_)
  refine T.seq ?_
  refine T.region ?_
  refine TL.cons rfl (V1.t (V1.assign' z_C) ?_)
  refine TL.nil ?_
  refine T.seq ?_
  refine T.seq ?_
  refine T.region ?_
  refine TL.cons rfl (T1.callV has_8 rfl rfl (hands_any w0 []) z_E (fun v_ hv => ?_))
  obtain rfl := hv
  refine TL.cons rfl (V1.t (V1.not (r := false) rfl rfl) ?_)
  refine TL.nil ?_
  refine T.cond_f rfl ?_
  refine T.skip ?_
  refine T.seq ?_
  refine T.seq ?_
  refine T.region ?_
  refine TL.cons rfl (V1.t (V1.move' z_C) ?_)
  refine TL.cons rfl (V1.t (V1.lenSl ty_34 rfl) ?_)
  refine TL.cons rfl (T1.gtI_split rfl rfl (fun h3_2 => ?_) (fun h3_2 => ?_))
  ·
    refine TL.cons rfl (V1.t (V1.move' z_C) ?_)
    refine TL.no rfl ?_
    refine TL.no rfl ?_
    refine TL.cons rfl (V1.t (V1.pick rfl z_C) ?_)
    refine TL.cons rfl (V1.t (V1.move' z_C) ?_)
    refine TL.no rfl ?_
    refine TL.no rfl ?_
    refine TL.cons rfl (V1.t (V1.pick rfl z_C) ?_)
    refine TL.nil ?_
    refine T.cond_t rfl ?_
    refine T.seq ?_
    refine T.region ?_
    refine TL.cons rfl (V1.t (V1.assign' z_C) ?_)
    refine TL.nil ?_
    refine T.ret ?_
    exact ⟨_, G, _, .cons (.tmp z_C) .nil, z_A, rfl, rfl⟩
  ·
    refine TL.cons rfl (V1.t (V1.move' z_C) ?_)
    refine TL.cons rfl (V1.t (V1.move' z_C) ?_)
    refine TL.cons rfl (T1.ltI_split rfl rfl (fun h3_5 => ?_) (fun h3_5 => ?_))
    ·
      refine TL.cons rfl (V1.t (V1.pick rfl z_C) ?_)
      refine TL.cons rfl (V1.t (V1.move' z_C) ?_)
      refine TL.no rfl ?_
      refine TL.no rfl ?_
      refine TL.cons rfl (V1.t (V1.pick rfl z_C) ?_)
      refine TL.nil ?_
      refine T.cond_t rfl ?_
      refine T.seq ?_
      refine T.region ?_
      refine TL.cons rfl (V1.t (V1.assign' z_C) ?_)
      refine TL.nil ?_
      refine T.ret ?_
      exact ⟨_, G, _, .cons (.tmp z_C) .nil, z_A, rfl, rfl⟩
    ·
      refine TL.cons rfl (V1.t (V1.pick rfl z_C) ?_)
      refine TL.cons rfl (V1.t (V1.move' z_C) ?_)
      refine TL.cons rfl (V1.t (V1.move' z_C) ?_)
      refine TL.cons rfl (T1.gtI_split rfl rfl (fun h3_9 => ?_) (fun h3_9 => ?_))
      ·
        refine TL.cons rfl (V1.t (V1.pick rfl z_C) ?_)
        refine TL.nil ?_
        refine T.cond_t rfl ?_
        refine T.seq ?_
        refine T.region ?_
        refine TL.cons rfl (V1.t (V1.assign' z_C) ?_)
        refine TL.nil ?_
        refine T.ret ?_
        exact ⟨_, G, _, .cons (.tmp z_C) .nil, z_A, rfl, rfl⟩
      ·
        refine TL.cons rfl (V1.t (V1.pick rfl z_C) ?_)
        refine TL.nil ?_
        refine T.cond_f rfl ?_
        refine T.skip ?_
        refine T.seq ?_
        refine T.region ?_
        refine TL.cons rfl (T1.callC has_9 rfl rfl (New_any w0) z_E (fun v_ X0 hv => ?_))
        obtain ⟨p, rfl, hS0⟩ := hv
        obtain ⟨m, rfl⟩ : ∃ m : Nat, onces = m := ⟨onces.toNat, by omega⟩
        have hm : m ≤ 100 := by omega
        have hts : ts.length ≤ 30 := by omega
        refine TL.cons rfl (V1.t (V1.assign' z_C) ?_)
        refine TL.nil ?_
        refine T.seq ?_
        refine T.seq ?_
        refine T.live (l := [(0, _), (1, _), (5, _)]) (.cons z_C (.cons z_C (.cons z_C .nil))) (fun e_ => ?_)
        refine T.region ?_
        refine TL.cons rfl (V1.t (V1.move' z_C) ?_)
        refine TL.cons rfl (V1.t (V1.eqPn ty_23 rfl rfl) ?_)
        refine TL.cons rfl (V1.t (V1.move' z_C) ?_)
        refine TL.cons rfl (V1.t (V1.move' z_C) ?_)
        refine TL.cons rfl (T1.callM («as» := [.pointer (some ⟨p, 0, none⟩), u32V 1]) (X := X0) has_10 rfl rfl (Join_any w0 hS0 1 (by decide)) z_A z_E (fun v_ X1 hv => ?_))
        obtain ⟨hv, hS1⟩ := hv
        replace hS1 : SrvO p ([q1]) X1 := hS1
        replace hv : v_ = .int .i64 0 := hv
        subst hv
        refine TL.cons rfl (V1.t (V1.neI (r := false) rfl rfl rfl) ?_)
        refine TL.cons rfl (V1.t (V1.pick rfl z_C) ?_)
        refine TL.cons rfl (V1.t (V1.move' z_C) ?_)
        refine TL.cons rfl (V1.t (V1.move' z_C) ?_)
        refine TL.cons rfl (T1.callM («as» := [.pointer (some ⟨p, 0, none⟩), u32V 2]) (X := X1) has_10 rfl rfl (Join_any w0 hS1 2 (by decide)) z_A z_E (fun v_ X2 hv => ?_))
        obtain ⟨hv, hS2⟩ := hv
        replace hS2 : SrvO p (box2 []) X2 := hS2
        replace hv : v_ = .int .i64 0 := hv
        subst hv
        refine TL.cons rfl (V1.t (V1.neI (r := false) rfl rfl rfl) ?_)
        refine TL.cons rfl (V1.t (V1.pick rfl z_C) ?_)
        refine TL.nil ?_
        refine T.cond_f rfl ?_
        refine T.skip ?_
        refine T.seq ?_
        refine T.seq ?_
        refine T.region ?_
        refine TL.cons rfl (V1.t (V1.move' z_C) ?_)
        refine TL.cons rfl (V1.t (V1.lenSl ty_34 rfl) ?_)
        refine TL.cons rfl (V1.t (V1.move' z_C) ?_)
        refine TL.nil ?_
        refine T.block ?_
        refine T.loopL (σ := Nat × List Blk × List (List UInt8)) (l0 := [(0, _), (1, _), (5, _), (46, _), (47, _)]) (fun x => [(48, .int .i64 (x.1 : Nat))]) (fun x L => L = x.2.1 ++ G ∧ x.1 ≤ ts.length ∧ SrvO p (box2 x.2.2) x.2.1 ∧ Envs ts x.2.2 ∧ x.2.2.length = x.1 ∧ (x.2.2.map List.length).sum ≤ x.1 * 1041) (fun x => ts.length - x.1) (0, X2, []) (.cons rfl .nil) (.cons z_C (.cons z_C (.cons z_C (.cons z_C (.cons z_C .nil))))) z_A (⟨rfl, Nat.zero_le _, hS2, fun i t l _ h => by simp at h, rfl, Nat.zero_le _⟩) ?_
        rintro ⟨j, Xj, es⟩ e_ L ⟨rfl, hj, hSj, hen, hel, hes⟩
        dsimp only at hj hSj hen hel hes
        dsimp only
        refine T.seq ?_
        refine T.region ?_
        refine TL.cons rfl (T1.ltI_split rfl rfl (fun h9 => ?_) (fun h9 => ?_))
        ·
          obtain ⟨tb, to_, sv, tx, rfl, htx, hin, hrd⟩ := hp.at (P := P) (k := j) (by omega)
          obtain ⟨xa_, xc_, rfl⟩ := hin.form
          refine TL.nil ?_
          refine T.seq ?_
          refine T.cond_t rfl ?_
          refine T.skip ?_
          refine T.seq ?_
          refine T.block ?_
          refine T.seq ?_
          refine T.region ?_
          refine TL.cons rfl (V1.t (V1.indexAddrS ty_34 sz_29 rfl rfl (by omega) (by omega)) ?_)
          refine TL.cons rfl (V1.t (V1.load1 one_29 rfl (hrd _ rfl rfl _)) ?_)
          refine TL.cons rfl (V1.t (V1.assign' z_C) ?_)
          refine TL.nil ?_
          refine T.seq ?_
          refine T.seq ?_
          refine T.region ?_
          refine TL.cons rfl (V1.t (V1.move' z_C) ?_)
          refine TL.cons rfl (V1.t (V1.lenSl ty_29 rfl) ?_)
          refine TL.cons rfl (T1.gtI_split rfl rfl (fun h11_2 => ?_) (fun h11_2 => ?_))
          ·
            refine TL.nil ?_
            refine T.cond_t rfl ?_
            refine T.seq ?_
            refine T.region ?_
            refine TL.cons rfl (V1.t (V1.assign' z_C) ?_)
            refine TL.nil ?_
            refine T.ret ?_
            exact ⟨_, G, _, .cons (.tmp z_C) .nil, z_A, rfl, rfl⟩
          ·
            refine TL.nil ?_
            refine T.cond_f rfl ?_
            refine T.skip ?_
            refine T.seq ?_
            refine T.region ?_
            refine TL.cons rfl (V1.t (V1.move' z_C) ?_)
            refine TL.cons rfl (V1.t (V1.move' z_C) ?_)
            refine TL.cons rfl (T1.buildSl1 (os := [.const (.int .u32 2)]) (vs := [u32V 2]) ty_36 sz_27 zr_27 (by decide) rfl (.cons rfl .nil) rfl (ones rfl) (fun b57 => ?_))
            obtain ⟨l, henc, hll, hdec⟩ := env_dec (t := tx) (by omega)
            refine TL.cons rfl (T1.callM («as» := [.pointer (some ⟨p, 0, none⟩), u32V 1, .slice xa_ tx.length xc_, .slice (some ⟨b57, 0, none⟩) 1 1]) (X := Xj) has_11 rfl rfl (Send_any w0 [(⟨b57, 0, [u32V 2], 1⟩ : Blk)] hSj 1 (by decide) (l := tx) hin.row (ns := [2]) (RowS.ofSl (tg := none) (Ls := [(⟨b57, 0, [u32V 2], 1⟩ : Blk)]) (.inr ⟨b57, 0, 1, 1, 1, rfl, rfl, Nat.le_refl _, Nat.le_refl _, rfl⟩) (fun B_ hB_ => by rw [List.mem_singleton] at hB_; subst hB_; simp) (by decide) 1 rfl) (by decide)) z_A z_E (fun v_ Xn hv => ?_))
            obtain ⟨hv, hSn⟩ := hv
            rw [box2_send henc (by omega) (by omega)] at hv hSn
            subst hv
            refine TL.cons rfl (V1.t (V1.neI (r := false) rfl rfl rfl) ?_)
            refine TL.nil ?_
            refine T.cond_f rfl ?_
            refine T.skip ?_
            refine T.region ?_
            refine TL.cons rfl (V1.t (V1.add (c := ((j + 1 : Nat) : Int)) rfl rfl (by rw [wrap_i64 _ (by omega) (by omega)]; omega)) ?_)
            refine TL.cons rfl (V1.t (V1.move' z_C) ?_)
            refine TL.nil ?_
            exact ⟨(j + 1, Xn, es ++ [l]), Xn ++ G, _, (by simp only; omega), (.cons rfl .nil), (.cons rfl (.cons rfl (.cons rfl (.cons rfl (.cons rfl .nil))))), z_A, ⟨rfl, by simp only; omega, hSn, hen.snoc (by rw [hel]; exact htx) henc hll hdec (by omega), by simp only [List.length_append, List.length_singleton]; omega, by simp only [List.map_append, List.sum_append, List.map_cons, List.map_nil, List.sum_cons, List.sum_nil]; omega⟩⟩
        ·
          obtain rfl : j = ts.length := by omega
          refine TL.nil ?_
          refine T.seq ?_
          refine T.cond_f rfl ?_
          refine T.exit ?_
          refine T.seq ?_
          refine T.seq ?_
          refine T.region ?_
          refine TL.cons rfl (V1.t (V1.move' z_C) ?_)
          refine TL.cons rfl (V1.t (V1.lenSl ty_34 rfl) ?_)
          refine TL.cons rfl (V1.t (V1.move' z_C) ?_)
          refine TL.nil ?_
          refine T.block ?_
          refine T.loopL (σ := Nat × List Blk) (l0 := [(1, _), (5, _), (61, _), (62, _)]) (fun x => [(63, .int .i64 (x.1 : Nat))]) (fun x L => L = x.2 ++ G ∧ x.1 ≤ ts.length ∧ SrvO p (box2 (es.drop x.1)) x.2) (fun x => ts.length - x.1) (0, Xj) (.cons rfl .nil) (.cons z_C (.cons z_C (.cons z_C (.cons z_C .nil)))) z_A (⟨rfl, Nat.zero_le _, hSj⟩) ?_
          rintro ⟨i, Xi⟩ e_ L ⟨rfl, hi, hSi⟩
          dsimp only at hi hSi
          dsimp only
          refine T.seq ?_
          refine T.region ?_
          refine TL.cons rfl (T1.ltI_split rfl rfl (fun h17 => ?_) (fun h17 => ?_))
          ·
            obtain ⟨tb, to_, sv, tx, rfl, htx, hin, hrd⟩ := hp.at (P := P) (k := i) (by omega)
            obtain ⟨xa_, xc_, rfl⟩ := hin.form
            obtain ⟨l, hli, hdr⟩ := drop_at (es := es) (i := i) (by omega)
            obtain ⟨henc, hll, hdec, htl⟩ := hen i tx l htx hli
            rw [hdr] at hSi
            refine TL.nil ?_
            refine T.seq ?_
            refine T.cond_t rfl ?_
            refine T.skip ?_
            refine T.seq ?_
            refine T.block ?_
            refine T.seq ?_
            refine T.region ?_
            refine TL.cons rfl (V1.t (V1.indexAddrS ty_34 sz_29 rfl rfl (by omega) (by omega)) ?_)
            refine TL.cons rfl (V1.t (V1.load1 one_29 rfl (hrd _ rfl rfl _)) ?_)
            refine TL.cons rfl (V1.t (V1.assign' z_C) ?_)
            refine TL.nil ?_
            refine T.seq ?_
            refine T.region ?_
            refine TL.cons rfl (V1.t (V1.move' z_C) ?_)
            refine TL.cons rfl (T1.callM («as» := [.pointer (some ⟨p, 0, none⟩), u32V 2, .int .i64 0]) (X := Xi) has_13 rfl rfl (Take_any w0 hSi 2 0) z_A z_E (fun v_ Y5 hv => ?_))
            obtain ⟨Yf, Xt, rfl, hSt, hT⟩ := hv
            rw [box2_take] at hSt hT
            obtain ⟨sb, rfl, hsb⟩ := hT
            obtain ⟨ba, bc, rfl⟩ := hsb.of (n := l.length) (by simp) (by decide)
            simp only [List.append_assoc]
            refine TL.cons rfl (V1.t (V1.move' z_C) ?_)
            refine TL.cons rfl (V1.t (V1.extract rfl (by rfl)) ?_)
            refine TL.cons rfl (V1.t (V1.extract rfl (by rfl)) ?_)
            refine TL.cons rfl (V1.t (V1.assign' z_C) ?_)
            refine TL.cons rfl (V1.t (V1.assign' z_C) ?_)
            refine TL.nil ?_
            refine T.seq ?_
            refine T.region ?_
            refine TL.cons rfl (V1.t (V1.move' z_C) ?_)
            refine TL.cons rfl (T1.callC (Ps := Yf) has_14 rfl rfl (Decode_G w0 (l := l) (hsb.row1 l.length (by simp)) (by omega)) z_E (fun v_ Yd hd => ?_))
            unfold decR at hd
            rw [hdec] at hd
            obtain ⟨sk, sn, ss, sd, Yk, Yn, Ys, Yx, rfl, hk, hnn, hss, hdd, rfl⟩ := hd
            obtain ⟨ka, kc, rfl⟩ := hk.of (n := 1) rfl (by decide)
            obtain ⟨na, nc, rfl⟩ := hnn.of (n := 1) rfl (by decide)
            obtain ⟨nb, no, nsz, rfl, rfl, _⟩ := hnn.someK (by decide)
            obtain ⟨xa, xc, rfl⟩ := hss.of (n := 0) rfl (by decide)
            obtain ⟨da, dc, rfl⟩ := hdd.of (n := tx.length) (by simp) (by decide)
            simp only [List.append_assoc, List.cons_append, List.nil_append]
            refine TL.cons rfl (V1.t (V1.move' z_C) ?_)
            refine TL.cons rfl (V1.t (V1.extract rfl (by rfl)) ?_)
            refine TL.cons rfl (V1.t (V1.extract rfl (by rfl)) ?_)
            refine TL.cons rfl (T1.allocN 5 zr_39 rfl (fun b12 => ?_))
            refine TL.cons rfl (T1.storeN (vs := [.int .i64 7, .slice ka 1 kc, .slice (some ⟨nb, no, none⟩) 1 nc, .slice xa 0 xc, .slice da tx.length dc]) rfl rfl sz_39 (by intro u hu; simp only [List.mem_cons, List.not_mem_nil, or_false] at hu; rcases hu with rfl | rfl | rfl | rfl | rfl; rfl; exact hk.one; rfl; exact hss.one; exact hdd.one) z_G (by rfl) (by rfl) ?_)
            refine TL.cons rfl (V1.t (V1.assign' z_C) ?_)
            refine TL.nil ?_
            refine T.seq ?_
            refine T.live (l := [(1, _), (5, _), (9, _), (11, _), (12, _), (13, _), (61, _), (62, _), (63, _)]) (.cons z_C (.cons z_C (.cons z_C (.cons z_C (.cons z_C (.cons z_C (.cons z_C (.cons z_C (.cons z_C .nil))))))))) (fun e_ => ?_)
            refine T.region ?_
            refine TL.cons rfl (V1.t (V1.move' z_C) ?_)
            refine TL.cons rfl (V1.t (V1.neI (r := false) rfl rfl rfl) ?_)
            refine TL.cons rfl (V1.t (V1.move' z_C) ?_)
            refine TL.cons rfl (V1.t (V1.move' z_C) ?_)
            refine TL.cons rfl (V1.t (V1.neI (r := false) rfl rfl rfl) ?_)
            refine TL.cons rfl (V1.t (V1.pick rfl z_C) ?_)
            refine TL.cons rfl (V1.t (V1.move' z_C) ?_)
            refine TL.cons rfl (V1.t (V1.fieldAddr fl_39_4 rfl) ?_)
            refine TL.cons rfl (V1.t (V1.load1 one_29 rfl (.own z_D (by rfl))) ?_)
            refine TL.cons rfl (V1.t (V1.bytesToStr (l := tx) ty_29 ty_5 ty_9 rfl ((hdd.row1 tx.length (by simp)).row.src _ rfl rfl _ z_E) (by intro b h; cases h)) ?_)
            refine TL.cons rfl (V1.t (V1.move' z_C) ?_)
            refine TL.cons rfl (V1.t (V1.bytesToStr (l := tx) ty_29 ty_5 ty_9 rfl (hin.src rfl) (by intro b h; cases h)) ?_)
            refine TL.cons rfl (V1.t (V1.neS (r := false) rfl rfl (decide_eq_false (fun h => h rfl))) ?_)
            refine TL.cons rfl (V1.t (V1.pick rfl z_C) ?_)
            refine TL.cons rfl (V1.t (V1.move' z_C) ?_)
            refine TL.cons rfl (V1.t (V1.fieldAddr fl_39_2 rfl) ?_)
            refine TL.cons rfl (V1.t (V1.load1 one_36 rfl (.own z_D (by rfl))) ?_)
            refine TL.cons rfl (V1.t (V1.indexAddrS ty_36 sz_27 rfl rfl (by decide) (by decide)) ?_)
            refine TL.cons rfl (V1.t (V1.load1 (v := u32V 1) one_27 rfl (ib_rd (b := nb) (off := no) (cs := [u32V 1]) (k := 0) z_D rfl)) ?_)
            refine TL.cons rfl (V1.t (V1.neI (r := false) rfl rfl rfl) ?_)
            refine TL.cons rfl (V1.t (V1.pick rfl z_C) ?_)
            refine TL.nil ?_
            refine T.cond_f rfl ?_
            refine T.skip ?_
            refine T.live (l := [(1, _), (5, _), (61, _), (62, _), (63, _)]) (.cons z_C (.cons z_C (.cons z_C (.cons z_C (.cons z_C .nil))))) (fun e_ => ?_)
            refine T.region ?_
            refine TL.cons rfl (V1.t (V1.add (c := ((i + 1 : Nat) : Int)) rfl rfl (by rw [wrap_i64 _ (by omega) (by omega)]; omega)) ?_)
            refine TL.cons rfl (V1.t (V1.move' z_C) ?_)
            refine TL.nil ?_
            exact ⟨(i + 1, Xt), Xt ++ G, _, (by simp only; omega), (.cons rfl .nil), (.cons rfl (.cons rfl (.cons rfl (.cons rfl .nil)))), z_A, ⟨rfl, by simp only; omega, hSt⟩⟩
          ·
            obtain rfl : i = ts.length := by omega
            rw [List.drop_eq_nil_of_le (by omega)] at hSi
            refine TL.nil ?_
            refine T.seq ?_
            refine T.cond_f rfl ?_
            refine T.exit ?_
            refine T.seq ?_
            refine T.region ?_
            refine TL.cons rfl (V1.t (V1.assign' z_C) ?_)
            refine TL.nil ?_
            refine T.seq ?_
            refine T.seq ?_
            refine T.region ?_
            refine TL.cons rfl (V1.t (V1.assign' z_C) ?_)
            refine TL.nil ?_
            refine T.block ?_
            refine T.loopL (σ := Nat × Value × List Blk × List Value × List Blk) (l0 := [(1, _), (5, _)]) (fun x => [(14, x.2.1), (15, .int .i64 (x.1 : Nat))]) (fun x L => L = x.2.2.1 ++ (x.2.2.2.2 ++ (Xi ++ G)) ∧ x.1 ≤ m ∧ Sl x.2.1 x.2.2.2.1 5 x.2.2.1 ∧ FrmsO x.2.2.2.1 (bunL x.1) x.2.2.2.2) (fun x => m - x.1) (0, .slice none 0 0, [], [], []) (.cons rfl (.cons rfl .nil)) (.cons z_C (.cons z_C .nil)) z_A (⟨rfl, Nat.zero_le _, Sl.nil, .nil⟩) ?_
            rintro ⟨k, s1, Xs, cs, Xc⟩ e_ L ⟨rfl, hk, hs1, hc1⟩
            dsimp only at hk hs1 hc1
            dsimp only
            have hcl := hc1.len
            rw [bunL_len] at hcl
            refine T.seq ?_
            refine T.seq ?_
            refine T.region ?_
            refine TL.cons rfl (V1.t (V1.move' z_C) ?_)
            refine TL.cons rfl (V1.t (V1.move' z_C) ?_)
            refine TL.cons rfl (T1.ltI_split rfl rfl (fun h26 => ?_) (fun h26 => ?_))
            ·
              refine TL.nil ?_
              refine T.cond_t rfl ?_
              refine T.skip ?_
              refine T.seq ?_
              refine T.block ?_
              refine T.region ?_
              refine TL.cons rfl (V1.t (V1.move' z_C) ?_)
              refine TL.cons rfl (V1.t (V1.move' z_C) ?_)
              refine TL.cons rfl (V1.t (V1.add (c := ((k + 10 : Nat) : Int)) rfl rfl (by rw [wrap_i64 _ (by omega) (by omega)]; omega)) ?_)
              refine TL.cons rfl (V1.t (V1.conv (c := ((k + 10 : Nat) : Int)) ty_3 ty_27 rfl (wrap_u32 _ (by omega) (by omega))) ?_)
              refine TL.cons rfl (T1.callC («as» := [u32V (k + 10)]) has_15 rfl rfl (bundle_any w0 (k + 10)) z_E (fun v_ Yn hv => ?_))
              obtain ⟨cN, rfl, hcN⟩ := hv
              refine TL.cons rfl (T1.buildSlN (os := [.tmp 108]) (vss := [cN]) ty_42 sz_39 zr_39 (by decide) rfl (.cons z_C .nil) (by repeat (first | exact Aggs.nil | apply Aggs.cons rfl)) (by rfl) (by intro y hy; simp only [List.mem_singleton] at hy; subst hy; exact hcN.len) (fun b74 => ?_))
              refine TL.cons rfl (T1.append ty_42 kd_42 sz_39 by_39 zr_39 rfl (by decide) (by decide) rfl rfl hs1 (.sl (n := 1) (RdN.whole z_D) (by simp [hcN.len])) (fun u hu => hcN.one u (by simpa using hu)) 1000 (by have := hcN.len; simp only [List.flatten_cons, List.flatten_nil, List.append_nil]; omega) (by decide) z_B (fun s2 Xs2 hs3 => ?_))
              refine TL.cons rfl (V1.t (V1.assign' z_C) ?_)
              refine TL.nil ?_
              refine T.region ?_
              refine TL.cons rfl (V1.t (V1.move' z_C) ?_)
              refine TL.cons rfl (V1.t (V1.add (c := ((k + 1 : Nat) : Int)) rfl rfl (by rw [wrap_i64 _ (by omega) (by omega)]; omega)) ?_)
              refine TL.cons rfl (V1.t (V1.assign' z_C) ?_)
              refine TL.nil ?_
              exact ⟨(k + 1, s2, Xs2, cs ++ cN, Xc ++ Yn), Xs2 ++ (Xc ++ (Yn ++ (Xi ++ G))), _, (by simp only; omega), (.cons rfl (.cons rfl .nil)), (.cons rfl (.cons rfl .nil)), z_A, ⟨by simp only [List.append_assoc], by simp only; omega, by simpa using hs3, by simp only; rw [bunL_succ]; exact hc1.snoc hcN⟩⟩
            ·
              obtain rfl : k = m := by omega
              refine TL.nil ?_
              refine T.cond_f rfl ?_
              refine T.exit ?_
              refine T.seq ?_
              refine T.seq ?_
              refine T.region ?_
              refine TL.cons rfl (V1.t (V1.move' z_C) ?_)
              refine TL.cons rfl (T1.callC («as» := [u32V 5]) has_15 rfl rfl (bundle_any w0 5) z_E (fun v_ Y5 hv => ?_))
              obtain ⟨c5, rfl, hf5⟩ := hv
              obtain ⟨css, hfrs⟩ := hc1.frs hs1 w0 (Y5 ++ (Xs ++ Xc)) (Inc.skip (Inc.skip Inc.refl)) (Inc.skip Inc.here) (bunL_mem hm)
              refine TL.cons rfl (V1.t (V1.move' z_C) ?_)
              refine TL.cons rfl (T1.callM («as» := [.pointer (some ⟨p, 0, none⟩), u32V 1, .agg c5.toArray, s1]) (X := Xi) has_16 rfl rfl (Publish_any w0 (Y5 ++ (Xs ++ Xc)) hSi 1 (co := c5) (o := bunF 5) (hf5.read (bunF_wf (by decide)) Inc.here) (fs := bunL k) (css := css) hfrs (by rw [bunL_len]; omega)) z_A z_E (fun v_ X6 hv => ?_))
              obtain ⟨hv, hS6⟩ := hv
              rw [boxP_pub hm] at hv hS6
              subst hv
              refine TL.cons rfl (V1.t (V1.neI (r := false) rfl rfl rfl) ?_)
              refine TL.cons rfl (V1.t (V1.move' z_C) ?_)
              refine TL.cons rfl (V1.t (V1.move' z_C) ?_)
              refine TL.cons rfl (T1.callV («as» := [.pointer (some ⟨p, 0, none⟩), u32V 1]) (Ps := X6) has_17 rfl rfl (Left_any w0 hS6 1) z_E (fun v_ hv => ?_))
              rw [boxP_left, bunL_len] at hv
              subst hv
              refine TL.cons rfl (V1.t (V1.move' z_C) ?_)
              refine TL.cons rfl (V1.t (V1.neI (r := false) rfl rfl (decide_eq_false (fun h => h rfl))) ?_)
              refine TL.cons rfl (V1.t (V1.pick rfl z_C) ?_)
              refine TL.nil ?_
              refine T.cond_f rfl ?_
              refine T.skip ?_
              refine T.seq ?_
              refine T.seq ?_
              refine T.region ?_
              refine TL.cons rfl (V1.t (V1.assign' z_C) ?_)
              refine TL.nil ?_
              refine T.block ?_
              refine T.loopL (σ := Nat × List Blk) (l0 := [(1, _), (5, _)]) (fun x => [(16, .int .i64 (x.1 : Nat))]) (fun x L => L = x.2 ++ G ∧ x.1 ≤ k + 2 ∧ SrvO p (boxP ((bunL k).drop x.1)) x.2) (fun x => k + 2 - x.1) (0, X6) (.cons rfl .nil) (.cons z_C (.cons z_C .nil)) z_A (⟨rfl, Nat.zero_le _, hS6⟩) ?_
              rintro ⟨i, Xf⟩ e_ L ⟨rfl, hif, hSf⟩
              dsimp only at hif hSf
              dsimp only
              refine T.seq ?_
              refine T.seq ?_
              refine T.region ?_
              refine TL.cons rfl (V1.t (V1.move' z_C) ?_)
              refine TL.cons rfl (V1.t (V1.move' z_C) ?_)
              refine TL.cons rfl (V1.t (V1.add (c := ((k + 2 : Nat) : Int)) rfl rfl (by rw [wrap_i64 _ (by omega) (by omega)]; omega)) ?_)
              refine TL.cons rfl (T1.ltI_split rfl rfl (fun h32 => ?_) (fun h32 => ?_))
              ·
                obtain ⟨nn, hnn⟩ : ∃ nn, nn = if i < k then i + 10 else 5 := ⟨_, rfl⟩
                refine TL.nil ?_
                refine T.cond_t rfl ?_
                refine T.skip ?_
                refine T.seq ?_
                refine T.block ?_
                refine T.seq ?_
                refine T.region ?_
                refine TL.cons rfl (V1.t (V1.move' z_C) ?_)
                refine TL.cons rfl (T1.callM («as» := [.pointer (some ⟨p, 0, none⟩), u32V 1]) (X := Xf) has_18 rfl rfl (Fetch_any w0 hSf 1) z_A z_E (fun v_ Yt hv => ?_))
                obtain ⟨Yg, Xg, rfl, hSg, hT⟩ := hv
                rw [boxP_fetch, ← hnn] at hSg hT
                obtain ⟨cg, rfl, hg⟩ := hT
                obtain ⟨sk1, sn1, ss1, sd1, K1, N1, S1, D1, rfl, hk1, hn1, hs1_, hd1, rfl⟩ := hg
                obtain ⟨n1a, n1c, rfl⟩ := hn1.of (n := 2) rfl (by decide)
                obtain ⟨n1b, n1o, n1z, rfl, rfl, _⟩ := hn1.someK (by decide)
                simp only [List.append_assoc, List.cons_append, List.nil_append]
                refine TL.cons rfl (V1.t (V1.move' z_C) ?_)
                refine TL.cons rfl (V1.t (V1.extract rfl (by rfl)) ?_)
                refine TL.cons rfl (V1.t (V1.extract rfl (by rfl)) ?_)
                refine TL.cons rfl (T1.allocN 5 zr_39 rfl (fun b17 => ?_))
                refine TL.cons rfl (T1.storeN (vs := [.int .i64 1, sk1, .slice (some ⟨n1b, n1o, none⟩) 2 n1c, ss1, sd1]) rfl rfl sz_39 (by intro u hu; simp only [List.mem_cons, List.not_mem_nil, or_false] at hu; rcases hu with rfl | rfl | rfl | rfl | rfl; rfl; exact hk1.one; rfl; exact hs1_.one; exact hd1.one) z_G (by rfl) (by rfl) ?_)
                refine TL.cons rfl (V1.t (V1.assign' z_C) ?_)
                refine TL.nil ?_
                refine T.seq ?_
                refine T.region ?_
                refine TL.cons rfl (V1.t (V1.assign' z_C) ?_)
                refine TL.nil ?_
                refine T.seq ?_
                refine T.seq ?_
                refine T.region ?_
                refine TL.cons rfl (V1.t (V1.move' z_C) ?_)
                refine TL.cons rfl (V1.t (V1.move' z_C) ?_)
                refine TL.cons rfl (T1.ltI_split rfl rfl (fun h36 => ?_) (fun h36 => ?_))
                ·
                  rw [if_pos (by omega)] at hnn
                  refine TL.nil ?_
                  refine T.cond_t rfl ?_
                  refine T.live (l := [(1, _), (5, _), (16, _), (17, _), (18, _)]) (.cons z_C (.cons z_C (.cons z_C (.cons z_C (.cons z_C .nil))))) (fun e_ => ?_)
                  refine T.region ?_
                  refine TL.cons rfl (V1.t (V1.move' z_C) ?_)
                  refine TL.cons rfl (V1.t (V1.add (c := ((i + 10 : Nat) : Int)) rfl rfl (by rw [wrap_i64 _ (by omega) (by omega)]; omega)) ?_)
                  refine TL.cons rfl (V1.t (V1.conv (c := ((i + 10 : Nat) : Int)) ty_3 ty_27 rfl (wrap_u32 _ (by omega) (by omega))) ?_)
                  refine TL.cons rfl (V1.t (V1.assign' z_C) ?_)
                  refine TL.nil ?_
                  refine T.seq ?_
                  refine T.region ?_
                  refine TL.cons rfl (V1.t (V1.move' z_C) ?_)
                  refine TL.cons rfl (V1.t (V1.neI (r := false) rfl rfl rfl) ?_)
                  refine TL.cons rfl (V1.t (V1.move' z_C) ?_)
                  refine TL.cons rfl (V1.t (V1.fieldAddr fl_39_2 rfl) ?_)
                  refine TL.cons rfl (V1.t (V1.load1 one_36 rfl (.own z_D (by rfl))) ?_)
                  refine TL.cons rfl (V1.t (V1.indexAddrS ty_36 sz_27 rfl rfl (by decide) (by decide)) ?_)
                  refine TL.cons rfl (V1.t (V1.load1 (v := u32V nn) one_27 rfl (ib_rd (b := n1b) (off := n1o) (cs := [u32V nn, u32V nn]) (k := 0) z_D rfl)) ?_)
                  refine TL.cons rfl (V1.t (V1.move' z_C) ?_)
                  refine TL.cons rfl (V1.t (V1.neI (r := false) rfl rfl (decide_eq_false (by omega))) ?_)
                  refine TL.cons rfl (V1.t (V1.pick rfl z_C) ?_)
                  refine TL.nil ?_
                  refine T.cond_f rfl ?_
                  refine T.skip ?_
                  refine T.region ?_
                  refine TL.cons rfl (V1.t (V1.move' z_C) ?_)
                  refine TL.cons rfl (V1.t (V1.add (c := ((i + 1 : Nat) : Int)) rfl rfl (by rw [wrap_i64 _ (by omega) (by omega)]; omega)) ?_)
                  refine TL.cons rfl (V1.t (V1.assign' z_C) ?_)
                  refine TL.nil ?_
                  exact ⟨(i + 1, Xg), Xg ++ G, _, (by simp only; omega), (.cons rfl .nil), (.cons rfl (.cons rfl .nil)), z_A, ⟨rfl, by simp only; omega, hSg⟩⟩
                ·
                  rw [if_neg (by omega)] at hnn
                  refine TL.nil ?_
                  refine T.cond_f rfl ?_
                  refine T.skip ?_
                  refine T.seq ?_
                  refine T.live (l := [(1, _), (5, _), (16, _), (17, _), (18, _), (19, _)]) (.cons z_C (.cons z_C (.cons z_C (.cons z_C (.cons z_C (.cons z_C .nil)))))) (fun e_ => ?_)
                  refine T.region ?_
                  refine TL.cons rfl (V1.t (V1.move' z_C) ?_)
                  refine TL.cons rfl (V1.t (V1.neI (r := false) rfl rfl rfl) ?_)
                  refine TL.cons rfl (V1.t (V1.move' z_C) ?_)
                  refine TL.cons rfl (V1.t (V1.fieldAddr fl_39_2 rfl) ?_)
                  refine TL.cons rfl (V1.t (V1.load1 one_36 rfl (.own z_D (by rfl))) ?_)
                  refine TL.cons rfl (V1.t (V1.indexAddrS ty_36 sz_27 rfl rfl (by decide) (by decide)) ?_)
                  refine TL.cons rfl (V1.t (V1.load1 (v := u32V nn) one_27 rfl (ib_rd (b := n1b) (off := n1o) (cs := [u32V nn, u32V nn]) (k := 0) z_D rfl)) ?_)
                  refine TL.cons rfl (V1.t (V1.move' z_C) ?_)
                  refine TL.cons rfl (V1.t (V1.neI (r := false) rfl rfl (decide_eq_false (by omega))) ?_)
                  refine TL.cons rfl (V1.t (V1.pick rfl z_C) ?_)
                  refine TL.nil ?_
                  refine T.cond_f rfl ?_
                  refine T.skip ?_
                  refine T.region ?_
                  refine TL.cons rfl (V1.t (V1.move' z_C) ?_)
                  refine TL.cons rfl (V1.t (V1.add (c := ((i + 1 : Nat) : Int)) rfl rfl (by rw [wrap_i64 _ (by omega) (by omega)]; omega)) ?_)
                  refine TL.cons rfl (V1.t (V1.assign' z_C) ?_)
                  refine TL.nil ?_
                  exact ⟨(i + 1, Xg), Xg ++ G, _, (by simp only; omega), (.cons rfl .nil), (.cons rfl (.cons rfl .nil)), z_A, ⟨rfl, by simp only; omega, hSg⟩⟩
              ·
                obtain rfl : i = k + 2 := by omega
                rw [List.drop_eq_nil_of_le (by rw [bunL_len]; omega)] at hSf
                refine TL.nil ?_
                refine T.cond_f rfl ?_
                refine T.exit ?_
                refine T.seq ?_
                refine T.region ?_
                refine TL.cons rfl (V1.t (V1.move' z_C) ?_)
                refine TL.cons rfl (T1.callV («as» := [.pointer (some ⟨p, 0, none⟩), u32V 2]) (Ps := Xf) has_12 rfl rfl (Waiting_any w0 hSf 2) z_E (fun v_ hv => ?_))
                replace hv : v_ = .int .i64 0 := hv
                subst hv
                refine TL.cons rfl (V1.t (V1.eqI (r := true) rfl rfl rfl) ?_)
                refine TL.cons rfl (V1.t (V1.move' z_C) ?_)
                refine TL.cons rfl (V1.t (V1.move' z_C) ?_)
                refine TL.cons rfl (T1.callV («as» := [.pointer (some ⟨p, 0, none⟩), u32V 9]) (Ps := Xf) has_12 rfl rfl (Waiting_any w0 hSf 9) z_E (fun v_ hv => ?_))
                replace hv : v_ = .int .i64 0 := hv
                subst hv
                refine TL.cons rfl (V1.t (V1.eqI (r := true) rfl rfl rfl) ?_)
                refine TL.cons rfl (V1.t (V1.pick rfl z_C) ?_)
                refine TL.cons rfl (V1.t (V1.move' z_C) ?_)
                refine TL.cons rfl (V1.t (V1.move' z_C) ?_)
                refine TL.cons rfl (T1.callV («as» := [.pointer (some ⟨p, 0, none⟩), u32V 9]) (Ps := Xf) has_17 rfl rfl (Left_any w0 hSf 9) z_E (fun v_ hv => ?_))
                replace hv : v_ = .int .i64 0 := hv
                subst hv
                refine TL.cons rfl (V1.t (V1.eqI (r := true) rfl rfl rfl) ?_)
                refine TL.cons rfl (V1.t (V1.pick rfl z_C) ?_)
                refine TL.cons rfl (V1.t (V1.assign' z_C) ?_)
                refine TL.nil ?_
                refine T.ret ?_
                exact ⟨_, G, _, .cons (.tmp z_C) .nil, z_A, rfl, rfl⟩

theorem PostOrder_any (v0 : Value) (svs : List Value) (ts : List (List UInt8)) (onces : Int) (w : World) (hp : PartsIn w v0 svs ts) (hpn : ts.length ≤ 9223372036854775807) : Fn P 4 [v0, .int .i64 onces] w [] (fun v _ => v = .bool true) :=
  fun _ _ => (PostOrder_us w v0 svs ts hp hpn onces [] w Inc.nil (St.refl w)).mono fun _ _ ⟨v, Y, e1, e2, e3⟩ => ⟨v, Y, e1, by simpa using e2, e3.2⟩
end Go.Proofs.Ytijijaobialncaa.S
