/- Whether a raw term is one; its text, its one form and its parts. -/
import Derived.Test.YtlpkcbkflfbclaaGreatDoorQ3
import Derived.Test.YtlpkcbkflfbclaaGreatDoorT25
import Derived.Test.YtlpkcbkflfbclaaGreatDoorT7
import Derived.Test.YtlpkcbkflfbclaaGreatDoorTmMem
namespace Go.Proofs.YtlpkcbkflfbclaaGreatDoor.S
open Go.RowKit

theorem tmTy : TmTy P 24 22 3 9 := ⟨by kernel_rfl, ty_22, by kernel_rfl, by kernel_rfl, by kernel_rfl, by kernel_rfl, by kernel_rfl, by kernel_rfl, by rw [show P.bytesOf 24 = 48 from by kernel_rfl]; decide⟩
theorem ce_ts : P.cellTypes P.depth 24 = some [3, 9, 22] := by kernel_rfl
set_option maxRecDepth 100000 in
set_option maxHeartbeats 8000000 in
theorem TermChecks_us (w0 : World) {k : Int} {nm : List UInt8} {ts : List Tm} (cx : List Value) (hx_ : TmR w0 [] (.mk k nm ts) cx) : FnV P 3 [.agg cx.toArray] w0 [] (fun v => v = .bool true) := by
  obtain ⟨a, c, vs, rfl, hr, hl, ht⟩ := hx_.inv
  refine FnV.of 66 [.tmp 2] Go.Proofs.Tryz.func3 rfl rfl rfl rfl (fun G hG => ?_)
  refine T.seq ?_
  refine T.region ?_
  refine TL.cons rfl (T1.boxN 3 rfl rfl (fun b1 => ?_))
  refine TL.cons rfl (V1.t (V1.assign' z_D) ?_)
  refine TL.nil ?_
  refine T.seq ?_
  refine T.seq ?_
  refine T.region ?_
  refine TL.cons rfl (T1.callV has_9 rfl rfl (reads_any w0) z_E (fun v_ hv => ?_))
  obtain rfl := hv
  refine TL.cons rfl (V1.t (V1.not rfl rfl) ?_)
  refine TL.nil ?_
  refine T.cond_f rfl ?_
  refine T.skip ?_
  refine T.seq ?_
  refine T.seq ?_
  refine T.region ?_
  refine TL.cons rfl (V1.t (V1.loadN (vs := [.int .i64 k, .string (bstr nm), .slice a ts.length c]) one_24 sz_24 rfl (RdN.whole (cells := [.int .i64 k, .string (bstr nm), .slice a ts.length c]) z_C) rfl) ?_)
  refine TL.cons rfl (T1.callV has_10 rfl rfl (bnd_any w0 (.mk k nm ts) [] _ 1200 40 hx_ (by decide) (by decide) (by decide)) z_E (fun v_ hv => ?_))
  obtain rfl := hv
  obtain ⟨_, _, hb1⟩ := bnd_facts (.mk k nm ts) 1200 40 (by decide)
  refine TL.cons rfl (T1.gtI_split rfl rfl (fun h3 => ?_) (fun h3 => ?_))
  ·
    refine TL.nil ?_
    refine T.cond_t rfl ?_
    refine T.seq ?_
    refine T.region ?_
    refine TL.cons rfl (V1.t (V1.assign' z_D) ?_)
    refine TL.nil ?_
    refine T.ret ?_
    exact ⟨_, G, _, .cons (.tmp z_D) .nil, z_A, rfl, rfl⟩
  ·
    obtain ⟨hsz, hdp⟩ := hb1 (by omega)
    have hsz2 : (Tm.mk k nm ts).size ≤ 2000 := by omega
    refine TL.nil ?_
    refine T.cond_f rfl ?_
    refine T.skip ?_
    refine T.seq ?_
    refine T.region ?_
    refine TL.cons rfl (V1.t (V1.loadN (vs := [.int .i64 k, .string (bstr nm), .slice a ts.length c]) one_24 sz_24 rfl (RdN.whole (cells := [.int .i64 k, .string (bstr nm), .slice a ts.length c]) z_C) rfl) ?_)
    refine TL.cons rfl (T1.callC has_11 rfl rfl (pln_any w0 (.mk k nm ts) [] _ hx_ (.inl hsz2)) z_E (fun v_ Yp hY => ?_))
    obtain ⟨cy_, rfl, hcp⟩ := hY
    obtain ⟨ap, cp, vsp, rfl, _, _, _⟩ := hcp.inv
    refine TL.cons rfl (T1.allocN 3 zr_29 rfl (fun b3 => ?_))
    refine TL.cons rfl (T1.storeN (vs := [.int .i64 k, .string (bstr nm), .slice ap ts.length cp]) rfl rfl sz_29 (ones rfl) z_G (by rfl) (by rfl) ?_)
    refine TL.nil ?_
    refine T.seq ?_
    refine T.region ?_
    refine TL.cons rfl (V1.t (V1.loadN (vs := [.int .i64 k, .string (bstr nm), .slice ap ts.length cp]) one_29 sz_29 rfl (RdN.whole (cells := [.int .i64 k, .string (bstr nm), .slice ap ts.length cp]) z_C) rfl) ?_)
    refine TL.cons rfl (T1.callV has_12 rfl rfl (RCheck_any w0 (Yp ++ []) (.mk k nm ts) _ hcp hsz2) z_E (fun v_ hv => ?_))
    obtain rfl := hv
    refine TL.cons rfl (V1.t (V1.assign' z_D) ?_)
    refine TL.nil ?_
    refine T.seq ?_
    refine T.seq ?_
    refine T.region ?_
    refine TL.cons rfl (V1.t (V1.loadN (vs := [.int .i64 k, .string (bstr nm), .slice a ts.length c]) one_24 sz_24 rfl (RdN.whole (cells := [.int .i64 k, .string (bstr nm), .slice a ts.length c]) z_C) rfl) ?_)
    refine TL.cons rfl (T1.callV has_13 rfl rfl (Check_any w0 [] (.mk k nm ts) _ hx_) z_E (fun v_ hv => ?_))
    obtain rfl := hv
    refine TL.cons rfl (V1.t (V1.move' z_D) ?_)
    refine TL.cons rfl (V1.t (V1.neI (r := false) rfl rfl (decide_eq_false (fun h => h rfl))) ?_)
    refine TL.nil ?_
    refine T.cond_f rfl ?_
    refine T.skip ?_
    refine T.seq ?_
    refine T.seq ?_
    refine T.live (l := [(1, _), (3, _), (4, _)]) (.cons z_D (.cons z_D (.cons z_D .nil))) (fun e_ => ?_)
    refine T.region ?_
    refine TL.cons rfl (V1.t (V1.move' z_D) ?_)
    refine TL.cons rfl (T1.neI_split rfl rfl (fun h9 => ?_) (fun h9 => ?_))
    ·
      refine TL.nil ?_
      refine T.cond_t rfl ?_
      refine T.seq ?_
      refine T.region ?_
      refine TL.cons rfl (V1.t (V1.assign' z_D) ?_)
      refine TL.nil ?_
      refine T.ret ?_
      exact ⟨_, G, _, .cons (.tmp z_D) .nil, z_A, rfl, rfl⟩
    ·
      have hck : chk (.mk k nm ts) = 0 := by omega
      obtain ⟨hc1, hc2, hsh⟩ := chk_iff.1 hck
      refine TL.nil ?_
      refine T.cond_f rfl ?_
      refine T.skip ?_
      refine T.seq ?_
      refine T.seq ?_
      refine T.drawK (fun L_ => Find L_ (⟨b1, 0, [.int .i64 k, .string (bstr nm), .slice a ts.length c], 3⟩ : Blk) ∧ Find L_ (⟨b3, 0, [.int .i64 k, .string (bstr nm), .slice ap ts.length cp], 3⟩ : Blk) ∧ Inc Yp L_) mixed ⟨z_C, z_C, z_E⟩ ?_
      refine TK.take 0 rfl (by decide +kernel) (by decide +kernel) (by decide +kernel) rfl (fun _ _ _ h => h) (fun L_ ⟨k1_, k2_, k3_⟩ => V1.loadN (vs := [.int .i64 k, .string (bstr nm), .slice a ts.length c]) one_24 sz_24 rfl (RdN.whole (cells := [.int .i64 k, .string (bstr nm), .slice a ts.length c]) z_C) rfl) ?_
      refine TK.take 2 rfl (by decide +kernel) (by decide +kernel) (by decide +kernel) rfl (fun _ _ _ h => h) (fun L_ ⟨k1_, k2_, k3_⟩ => V1.loadN (vs := [.int .i64 k, .string (bstr nm), .slice ap ts.length cp]) one_29 sz_29 rfl (RdN.whole (cells := [.int .i64 k, .string (bstr nm), .slice ap ts.length cp]) z_C) rfl) ?_
      refine TK.one 1 (by decide +kernel) rfl rfl (T1.callV has_14 rfl rfl (TString_any w0 [] (.mk k nm ts) hx_ hsh (by omega)) z_E (fun v_ hv => ?_))
      obtain rfl := hv
      refine ⟨⟨z_C, z_C, z_E⟩, ?_⟩
      refine TK.one 3 (by decide +kernel) rfl rfl (T1.callV has_15 rfl rfl (Tx_any w0 (.mk k nm ts) (Yp ++ []) _ hcp hsh hsz2) z_E (fun v_ hv => ?_))
      obtain rfl := hv
      refine ⟨⟨z_C, z_C, z_E⟩, ?_⟩
      refine TK.take 4 rfl (by decide +kernel) (by decide +kernel) (by decide +kernel) rfl (fun _ _ _ h => h) (fun L_ ⟨k1_, k2_, k3_⟩ => V1.neS (r := false) rfl rfl (decide_eq_false (fun h => h rfl))) ?_
      refine TK.take 5 rfl (by decide +kernel) (by decide +kernel) (by decide +kernel) rfl (fun _ _ _ h => h) (fun L_ ⟨k1_, k2_, k3_⟩ => V1.move' z_D) ?_
      refine TK.take 6 rfl (by decide +kernel) (by decide +kernel) (by decide +kernel) rfl (fun _ _ _ h => h) (fun L_ ⟨k1_, k2_, k3_⟩ => V1.loadN (vs := [.int .i64 k, .string (bstr nm), .slice a ts.length c]) one_24 sz_24 rfl (RdN.whole (cells := [.int .i64 k, .string (bstr nm), .slice a ts.length c]) z_C) rfl) ?_
      refine TK.take 9 rfl (by decide +kernel) (by decide +kernel) (by decide +kernel) rfl (fun _ _ _ h => h) (fun L_ ⟨k1_, k2_, k3_⟩ => V1.loadN (vs := [.int .i64 k, .string (bstr nm), .slice ap ts.length cp]) one_29 sz_29 rfl (RdN.whole (cells := [.int .i64 k, .string (bstr nm), .slice ap ts.length cp]) z_C) rfl) ?_
      refine TK.one 7 (by decide +kernel) rfl rfl (T1.callC has_17 rfl rfl (Normal_any w0 (.mk k nm ts) [] _ hx_ hsh) z_E (fun v_ N1 hY => ?_))
      obtain ⟨cn1, rfl, hn1⟩ := hY
      refine ⟨⟨z_C, z_C, z_E⟩, ?_⟩
      refine TK.one 8 (by decide +kernel) rfl rfl (T1.callC has_11 rfl rfl (pln_any w0 (nrm (.mk k nm ts)) (N1 ++ []) _ hn1 (.inr (shp_nrm _ hsh))) z_E (fun v_ N2 hY => ?_))
      obtain ⟨cn2, rfl, hn2⟩ := hY
      refine ⟨⟨z_C, z_C, z_E⟩, ?_⟩
      refine TK.one 10 (by decide +kernel) rfl rfl (T1.callC has_18 rfl rfl (RNormal_any w0 (.mk k nm ts) (Yp ++ []) _ hcp hsh) z_E (fun v_ N3 hY => ?_))
      obtain ⟨cn3, rfl, hn3⟩ := hY
      refine ⟨⟨z_C, z_C, z_E⟩, ?_⟩
      refine TK.one 11 (by decide +kernel) rfl rfl (T1.callV has_16 rfl rfl (RCompare_any w0 (nrm (.mk k nm ts)) (nrm (.mk k nm ts)) ((N2 ++ (N1 ++ [])) ++ (N3 ++ (Yp ++ []))) _ _ (hn2.more Inc.here) (hn3.more (Inc.skip Inc.refl))) z_E (fun v_ hv => ?_))
      obtain rfl := hv
      rw [cmpT_self]
      refine ⟨⟨z_C, z_C, z_E⟩, ?_⟩
      refine TK.take 12 rfl (by decide +kernel) (by decide +kernel) (by decide +kernel) rfl (fun _ _ _ h => h) (fun L_ ⟨k1_, k2_, k3_⟩ => V1.neI (r := false) rfl rfl (by decide)) ?_
      refine TK.take 13 rfl (by decide +kernel) (by decide +kernel) (by decide +kernel) rfl (fun _ _ _ h => h) (fun L_ ⟨k1_, k2_, k3_⟩ => V1.pick rfl z_D) ?_
      refine TD.done (by decide +kernel) ?_
      refine T.cond_f rfl ?_
      refine T.skip ?_
      refine T.seq ?_
      refine T.seq ?_
      refine T.live (l := [(1, _), (3, _)]) (.cons z_D (.cons z_D .nil)) (fun e_ => ?_)
      refine T.region ?_
      refine TL.cons rfl (V1.t (V1.loadN (vs := [.int .i64 k, .string (bstr nm), .slice a ts.length c]) one_24 sz_24 rfl (RdN.whole (cells := [.int .i64 k, .string (bstr nm), .slice a ts.length c]) z_C) rfl) ?_)
      refine TL.cons rfl (T1.callV has_10 rfl rfl (bnd_any w0 (.mk k nm ts) [] _ 100 40 hx_ (by decide) (by decide) (by decide)) z_E (fun v_ hv => ?_))
      obtain rfl := hv
      refine TL.cons rfl (T1.gtI_split rfl rfl (fun h13 => ?_) (fun h13 => ?_))
      ·
        refine TL.nil ?_
        refine T.cond_t rfl ?_
        refine T.seq ?_
        refine T.region ?_
        refine TL.cons rfl (V1.t (V1.assign' z_D) ?_)
        refine TL.nil ?_
        refine T.ret ?_
        exact ⟨_, G, _, .cons (.tmp z_D) .nil, z_A, rfl, rfl⟩
      ·
        refine TL.nil ?_
        refine T.cond_f rfl ?_
        refine T.skip ?_
        refine T.seq ?_
        refine T.drawK (fun L_ => Find L_ (⟨b1, 0, [.int .i64 k, .string (bstr nm), .slice a ts.length c], 3⟩ : Blk) ∧ Find L_ (⟨b3, 0, [.int .i64 k, .string (bstr nm), .slice ap ts.length cp], 3⟩ : Blk) ∧ Inc Yp L_) mixed ⟨z_C, z_C, z_E⟩ ?_
        refine TK.take 0 rfl (by decide +kernel) (by decide +kernel) (by decide +kernel) rfl (fun _ _ _ h => h) (fun L_ ⟨k1_, k2_, k3_⟩ => V1.loadN (vs := [.int .i64 k, .string (bstr nm), .slice a ts.length c]) one_24 sz_24 rfl (RdN.whole (cells := [.int .i64 k, .string (bstr nm), .slice a ts.length c]) z_C) rfl) ?_
        refine TK.take 2 rfl (by decide +kernel) (by decide +kernel) (by decide +kernel) rfl (fun _ _ _ h => h) (fun L_ ⟨k1_, k2_, k3_⟩ => V1.loadN (vs := [.int .i64 k, .string (bstr nm), .slice ap ts.length cp]) one_29 sz_29 rfl (RdN.whole (cells := [.int .i64 k, .string (bstr nm), .slice ap ts.length cp]) z_C) rfl) ?_
        refine TK.one 1 (by decide +kernel) rfl rfl (T1.callC has_19 rfl rfl (Parts_any w0 [] (.mk k nm ts) _ hx_ hsz2) z_E (fun v_ Yu hY => ?_))
        obtain ⟨us, wu, hsu, hmu, hslu, htu⟩ := hY
        refine ⟨⟨z_C, z_C, z_E⟩, ?_⟩
        refine TK.one 3 (by decide +kernel) rfl rfl (T1.callC has_20 rfl rfl (RParts_any w0 (Yp ++ []) (.mk k nm ts) _ hcp (by omega)) z_E (fun v_ Yw hY => ?_))
        obtain ⟨us2, ww, hsw, hmw, hslw, htw⟩ := hY
        obtain rfl : us2 = us := hsw.eq hsu (fun y => (hmw y).trans (hmu y).symm)
        have hrw := RowR.ofSl (w0 := w0) hslw Inc.refl (by decide) us2.length htw.len
        obtain ⟨aw, cw, rfl⟩ := hrw.form
        have hru := RowR.ofSl (w0 := w0) hslu Inc.refl (by decide) us2.length htu.len
        obtain ⟨au, cu, rfl⟩ := hru.form
        have hul : us2.length ≤ 3000 := by have := npart_of hsu.nodup hmu; have := npart_le (.mk k nm ts); omega
        refine ⟨⟨z_C, z_C, z_E⟩, ?_⟩
        refine TK.take 4 rfl (by decide +kernel) (by decide +kernel) (by decide +kernel) rfl (fun _ _ _ h => h) (fun L_ ⟨k1_, k2_, k3_⟩ => V1.assign' z_D) ?_
        refine TK.take 5 rfl (by decide +kernel) (by decide +kernel) (by decide +kernel) rfl (fun _ _ _ h => h) (fun L_ ⟨k1_, k2_, k3_⟩ => V1.assign' z_D) ?_
        refine TD.done (by decide +kernel) ?_
        refine T.seq ?_
        refine T.seq ?_
        refine T.region ?_
        refine TL.cons rfl (V1.t (V1.move' z_D) ?_)
        refine TL.cons rfl (V1.t (V1.lenSl ty_22 rfl) ?_)
        refine TL.cons rfl (V1.t (V1.move' z_D) ?_)
        refine TL.cons rfl (V1.t (V1.lenSl ty_27 rfl) ?_)
        refine TL.cons rfl (V1.t (V1.neI (r := false) rfl rfl (decide_eq_false (fun h => h rfl))) ?_)
        refine TL.nil ?_
        refine T.cond_f rfl ?_
        refine T.skip ?_
        refine T.seq ?_
        refine T.seq ?_
        refine T.region ?_
        refine TL.cons rfl (V1.t (V1.move' z_D) ?_)
        refine TL.cons rfl (V1.t (V1.lenSl ty_22 rfl) ?_)
        refine TL.cons rfl (V1.t (V1.move' z_D) ?_)
        refine TL.nil ?_
        refine T.block ?_
        refine T.loopL (σ := Nat) (l0 := [(5, _), (6, _), (50, _)]) (fun x => [(51, .int .i64 (x : Nat))]) (fun i L => ∃ R_, L = R_ ++ (Yu ++ (Yw ++ (Yp ++ G))) ∧ i ≤ us2.length) (fun i => us2.length - i) 0 (.cons rfl .nil) (.cons z_D (.cons z_D (.cons z_D .nil))) z_A (⟨[], rfl, Nat.zero_le _⟩) ?_
        rintro i e_ L ⟨R_, rfl, hi⟩
        refine T.seq ?_
        refine T.region ?_
        refine TL.cons rfl (T1.ltI_split rfl rfl (fun h19 => ?_) (fun h19 => ?_))
        ·
          obtain ⟨x, hx0⟩ : ∃ x, us2[i]? = some x := ⟨_, List.getElem?_eq_getElem (by omega)⟩
          have hxs := subs_size ((hmu x).1 (List.mem_of_getElem? hx0))
          obtain ⟨bu_, ou_, csu, rfl, hxu, hrdu⟩ := hru.term htu hx0 P
          obtain ⟨bw_, ow_, csw, rfl, hxw, hrdw⟩ := hrw.term htw hx0 P
          obtain ⟨kx, nx_, asx⟩ := x
          obtain ⟨a5, c5, vs5, rfl, _, _, _⟩ := hxu.inv
          obtain ⟨a6, c6, vs6, rfl, _, _, _⟩ := hxw.inv
          refine TL.nil ?_
          refine T.seq ?_
          refine T.cond_t rfl ?_
          refine T.skip ?_
          refine T.seq ?_
          refine T.block ?_
          refine T.seq ?_
          refine T.region ?_
          refine TL.cons rfl (V1.t (V1.move' z_D) ?_)
          refine TL.cons rfl (V1.t (V1.assign' z_D) ?_)
          refine TL.nil ?_
          refine T.seq ?_
          refine T.drawK (fun L_ => Inc Yu L_ ∧ Inc Yw L_ ∧ Inc Yp L_) mixed ⟨z_E, z_E, z_E⟩ ?_
          refine TK.take 0 rfl (by decide +kernel) (by decide +kernel) (by decide +kernel) rfl (fun _ _ _ h => h) (fun L_ ⟨k1_, k2_, k3_⟩ => V1.move' z_D) ?_
          refine TK.take 1 rfl (by decide +kernel) (by decide +kernel) (by decide +kernel) rfl (fun _ _ _ h => h) (fun L_ ⟨k1_, k2_, k3_⟩ => V1.move' z_D) ?_
          refine TK.take 2 rfl (by decide +kernel) (by decide +kernel) (by decide +kernel) rfl (fun _ _ _ h => h) (fun L_ ⟨k1_, k2_, k3_⟩ => V1.indexAddrS ty_22 sz_24 rfl rfl (by omega) (by omega)) ?_
          refine TK.take 3 rfl (by decide +kernel) (by decide +kernel) (by decide +kernel) rfl (fun _ _ _ h => h) (fun L_ ⟨k1_, k2_, k3_⟩ => V1.loadN (vs := [.int .i64 kx, .string (bstr nx_), .slice a5 asx.length c5]) one_24 sz_24 rfl (hrdu _ rfl rfl _ z_E) rfl) ?_
          refine TK.take 5 rfl (by decide +kernel) (by decide +kernel) (by decide +kernel) rfl (fun _ _ _ h => h) (fun L_ ⟨k1_, k2_, k3_⟩ => V1.move' z_D) ?_
          refine TK.take 6 rfl (by decide +kernel) (by decide +kernel) (by decide +kernel) rfl (fun _ _ _ h => h) (fun L_ ⟨k1_, k2_, k3_⟩ => V1.move' z_D) ?_
          refine TK.take 7 rfl (by decide +kernel) (by decide +kernel) (by decide +kernel) rfl (fun _ _ _ h => h) (fun L_ ⟨k1_, k2_, k3_⟩ => V1.indexAddrS ty_27 sz_29 rfl rfl (by omega) (by omega)) ?_
          refine TK.take 8 rfl (by decide +kernel) (by decide +kernel) (by decide +kernel) rfl (fun _ _ _ h => h) (fun L_ ⟨k1_, k2_, k3_⟩ => V1.loadN (vs := [.int .i64 kx, .string (bstr nx_), .slice a6 asx.length c6]) one_29 sz_29 rfl (hrdw _ rfl rfl _ z_E) rfl) ?_
          refine TK.one 4 (by decide +kernel) rfl rfl (T1.callC has_11 rfl rfl (pln_any w0 (.mk kx nx_ asx) [] _ hxu (.inl (by omega))) z_E (fun v_ Yq hY => ?_))
          obtain ⟨cq, rfl, hcq⟩ := hY
          refine ⟨⟨z_E, z_E, z_E⟩, ?_⟩
          refine TK.one 9 (by decide +kernel) rfl rfl (T1.callV has_16 rfl rfl (RCompare_any w0 (.mk kx nx_ asx) (.mk kx nx_ asx) ((Yq ++ []) ++ (Yp ++ [])) _ _ (hcq.more Inc.here) (hxw.more (Inc.skip Inc.refl))) z_E (fun v_ hv => ?_))
          obtain rfl := hv
          rw [cmpT_self]
          refine ⟨⟨z_E, z_E, z_E⟩, ?_⟩
          refine TK.take 10 rfl (by decide +kernel) (by decide +kernel) (by decide +kernel) rfl (fun _ _ _ h => h) (fun L_ ⟨k1_, k2_, k3_⟩ => V1.neI (r := false) rfl rfl (by decide)) ?_
          refine TD.done (by decide +kernel) ?_
          refine T.cond_f rfl ?_
          refine T.skip ?_
          refine T.region ?_
          refine TL.cons rfl (V1.t (V1.add (c := ((i + 1 : Nat) : Int)) rfl rfl (by rw [wrap_i64 _ (by omega) (by omega)]; omega)) ?_)
          refine TL.cons rfl (V1.t (V1.move' z_D) ?_)
          refine TL.nil ?_
          exact ⟨i + 1, [] ++ (Yu ++ (Yw ++ (Yp ++ G))), _, (by simp only; omega), (.cons rfl .nil), (.cons rfl (.cons rfl (.cons rfl .nil))), z_A, ⟨[], rfl, by omega⟩⟩
        ·
          refine TL.nil ?_
          refine T.seq ?_
          refine T.cond_f rfl ?_
          refine T.exit ?_
          refine T.seq ?_
          refine T.region ?_
          refine TL.cons rfl (V1.t (V1.assign' z_D) ?_)
          refine TL.nil ?_
          refine T.ret ?_
          exact ⟨_, G, _, .cons (.tmp z_D) .nil, z_A, rfl, rfl⟩

theorem TermChecks_any (w0 : World) (x : Tm) (cx : List Value) (hx : TmR w0 [] x cx) : FnV P 3 [.agg cx.toArray] w0 [] (fun v => v = .bool true) := by
  obtain ⟨k, nm, ts⟩ := x
  exact TermChecks_us w0 cx hx
end Go.Proofs.YtlpkcbkflfbclaaGreatDoor.S
