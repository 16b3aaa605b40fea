/- Who can read what two agree on. -/
import Derived.Test.YtlpkcbkflfbclaaDoorT15
import Derived.Test.YtlpkcbkflfbclaaDoorWtSpec
import Derived.Test.YtlpkcbkflfbclaaDoorOpsI
namespace Go.Proofs.YtlpkcbkflfbclaaDoor.S
open Go.RowKit

theorem TmR.forms {k : Int} {n : List UInt8} {ts : List Tm} {w0 : World} {Ps : List Blk} {cs : List Value} (h : TmR w0 Ps (.mk k n ts) cs) : ∃ a c, cs = [.int .i64 k, .string (bstr n), .slice a ts.length c] := by
  obtain ⟨a, c, _, e, _⟩ := h.inv; exact ⟨a, c, e⟩
/-- A term, among new blocks. -/
def MTm (w0 : World) (Ps : List Blk) (k : Int) (nm : List UInt8) (n : Nat) (ts : List Tm) : Value → List Blk → Prop := fun v Y => ∃ a c, v = .agg [.int .i64 k, .string (bstr nm), .slice a n c].toArray ∧ TmR w0 (Y ++ Ps) (.mk k nm ts) [.int .i64 k, .string (bstr nm), .slice a n c]
theorem MTm.mono {w0 : World} {Ps : List Blk} {k : Int} {nm : List UInt8} {n : Nat} {ts : List Tm} (v : Value) (Y Z : List Blk) (h : MTm w0 Ps k nm n ts v Y) : MTm w0 Ps k nm n ts v (Z ++ Y) := by
  obtain ⟨a, c, h1, h2⟩ := h
  exact ⟨a, c, h1, h2.more (Inc.app (Inc.left (Inc.skip Inc.refl)) (Inc.skip Inc.refl))⟩
/-- A slice of terms. -/
def MTms (w0 : World) (Ps : List Blk) (n : Nat) (ts : List Tm) : Value → List Blk → Prop := fun v Y => ∃ a c vs, v = .slice a n c ∧ RowR w0 (Y ++ Ps) 3 (.slice a n c) n vs ∧ TmsR w0 (Y ++ Ps) ts vs
theorem MTms.mono {w0 : World} {Ps : List Blk} {n : Nat} {ts : List Tm} (v : Value) (Y Z : List Blk) (h : MTms w0 Ps n ts v Y) : MTms w0 Ps n ts v (Z ++ Y) := by
  obtain ⟨a, c, vs, h1, h2, h3⟩ := h
  have hi : Inc (Y ++ Ps) (Z ++ Y ++ Ps) := Inc.app (Inc.left (Inc.skip Inc.refl)) (Inc.skip Inc.refl)
  exact ⟨a, c, vs, h1, h2.more hi, h3.more hi⟩
set_option maxRecDepth 100000 in
theorem tof_any (w0 : World) (Ps : List Blk) (k : Int) (nm : List UInt8) (s : Value) {a : Option Addr} {n c : Nat} (hs : s = .slice a n c) : FnV P 14 [.int .i64 k, .string (bstr nm), s] w0 Ps (fun v => v = .agg [.int .i64 k, .string (bstr nm), s].toArray) := by
  subst hs
  refine FnV.of 11 [.cell 6 26] Go.Proofs.Tryd.func14 rfl rfl rfl rfl (fun G hG => ?_)
  refine T.seq ?_
  refine T.region ?_
  refine TL.cons rfl (T1.allocN 3 zr_26 rfl (fun b6 => ?_))
  refine TL.nil ?_
  refine T.seq ?_
  refine T.region ?_
  refine TL.cons rfl (V1.t (V1.move' (by (conv => lhs; whnf) <;> rfl)) ?_)
  refine TL.cons rfl (V1.t (V1.move' (by (conv => lhs; whnf) <;> rfl)) ?_)
  refine TL.cons rfl (V1.t (V1.move' (by (conv => lhs; whnf) <;> rfl)) ?_)
  refine TL.cons rfl (V1.t (V1.buildF pl_26 zr_26 (.one rfl (by (conv => lhs; whnf) <;> rfl) rfl (.one rfl (by (conv => lhs; whnf) <;> rfl) rfl (.one rfl (by (conv => lhs; whnf) <;> rfl) rfl .nil))) (by repeat (first | exact FillL.nil | exact SetN.done | apply SetN.here | apply SetN.there | apply FillL.cons))) ?_)
  refine TL.cons rfl (T1.storeN rfl rfl sz_26 (ones rfl) (by repeat (first | exact Sub.one | apply Sub.there | apply Sub.far)) (by rfl) (by rfl) ?_)
  refine TL.nil ?_
  refine T.ret ?_
  exact ⟨_, G, _, .cons (.cellN (by (conv => lhs; whnf) <;> rfl) one_26 sz_26 (RdN.whole (by repeat (first | exact Find.here | assumption | apply Find.there | apply Find.far))) (by rfl)) .nil, (by repeat (first | exact Take.nil | apply Take.one (by repeat (first | exact Pick.here | apply Pick.there | apply Pick.far)) | apply Take.seg (by repeat (first | exact PickS.last | exact PickS.one | exact PickS.here | exact PickS.nil | apply PickS.there | apply PickS.far)) | exact Take.last (by repeat (first | exact PickS.last | exact PickS.one | exact PickS.here | exact PickS.nil | apply PickS.there | apply PickS.far)))), rfl, rfl⟩

set_option maxRecDepth 100000 in
theorem tpub_any (w0 : World) (Ps : List Blk) (nm : List UInt8) : FnG P 13 [.string (bstr nm)] w0 Ps [] (fun v Y => ∃ a c, v = .agg [.int .i64 5, .string (bstr []), .slice a 1 c].toArray ∧ TmR w0 (Y ++ Ps) (pub (at_ nm)) [.int .i64 5, .string (bstr []), .slice a 1 c]) := by
  refine FnG.of 7 [.cell 2 26] Go.Proofs.Tryd.func13 rfl rfl rfl rfl (fun G hG => ?_)
  refine T.seq ?_
  refine T.region ?_
  refine TL.cons rfl (T1.allocN 3 zr_26 rfl (fun b2 => ?_))
  refine TL.nil ?_
  refine T.seq ?_
  refine T.region ?_
  refine TL.cons rfl (V1.t (V1.move' (by (conv => lhs; whnf) <;> rfl)) ?_)
  refine TL.cons rfl (T1.callV has_12 rfl rfl (Of_any w0 [] nm) (by repeat (first | exact Inc.nil | assumption | exact Inc.refl | exact Inc.here | apply Inc.app | apply Inc.cons (by repeat (first | exact Find.here | assumption | apply Find.there | apply Find.far)) | apply Inc.skip1 | apply Inc.skip)) (fun v_ hv => ?_))
  obtain rfl := hv
  refine TL.cons rfl (T1.buildOne (cs := [.int .i64 1, .string (bstr nm), .slice none 0 0]) ty_23 sz_26 zr_26 (by decide) rfl (by rfl) (fun b5 => ?_))
  refine TL.cons rfl (T1.callV has_14 rfl rfl (tof_any w0 [] 5 [] _ rfl) (by repeat (first | exact Inc.nil | assumption | exact Inc.refl | exact Inc.here | apply Inc.app | apply Inc.cons (by repeat (first | exact Find.here | assumption | apply Find.there | apply Find.far)) | apply Inc.skip1 | apply Inc.skip)) (fun v_ hv => ?_))
  obtain rfl := hv
  refine TL.cons rfl (T1.storeN rfl rfl sz_26 (ones rfl) (by repeat (first | exact Sub.one | apply Sub.there | apply Sub.far)) (by rfl) (by rfl) ?_)
  refine TL.nil ?_
  refine T.ret ?_
  exact ⟨_, ⟨⟨b5, some 26⟩, 0, [.int .i64 1, .string (bstr nm), .slice none 0 0], 3⟩ :: G, _, .cons (.cellN (by (conv => lhs; whnf) <;> rfl) one_26 sz_26 (RdN.whole (by repeat (first | exact Find.here | assumption | apply Find.there | apply Find.far))) (by rfl)) .nil, (by repeat (first | exact Take.nil | apply Take.one (by repeat (first | exact Pick.here | apply Pick.there | apply Pick.far)) | apply Take.seg (by repeat (first | exact PickS.last | exact PickS.one | exact PickS.here | exact PickS.nil | apply PickS.there | apply PickS.far)) | exact Take.last (by repeat (first | exact PickS.last | exact PickS.one | exact PickS.here | exact PickS.nil | apply PickS.there | apply PickS.far)))), [⟨⟨b5, some 26⟩, 0, [.int .i64 1, .string (bstr nm), .slice none 0 0], 3⟩], rfl, _, _, rfl, TmR.mkN (nm := []) (n := 1) rfl (RowR.own (List.mem_cons_self ..) rfl) (by decide) (TmsR.one TmR.atom)⟩

set_option maxRecDepth 100000 in
set_option maxHeartbeats 8000000 in
theorem tsec_any (w0 : World) (Ps : List Blk) {a f g p o : Tm} {ca cf cg cp co : List Value} (hca : TmR w0 Ps a ca) (hcf : TmR w0 Ps f cf) (hcg : TmR w0 Ps g cg) (hcp : TmR w0 Ps p cp) (hco : TmR w0 Ps o co) : FnG P 11 [.agg ca.toArray, .agg cf.toArray, .agg cg.toArray, .agg cp.toArray, .agg co.toArray] w0 Ps [] (fun v Y => ∃ a_ c_, v = .agg [.int .i64 4, .string (bstr wAg), .slice a_ 4 c_].toArray ∧ TmR w0 (Y ++ Ps) (secretT a f g p o) [.int .i64 4, .string (bstr wAg), .slice a_ 4 c_]) := by
  obtain ⟨ka, na, asa⟩ := a
  obtain ⟨aa_, ca_, vsa, rfl, hra, hla, hta⟩ := hca.inv
  obtain ⟨kf, nf, asf⟩ := f
  obtain ⟨af_, cf_, vsf, rfl, hrf, hlf, htf⟩ := hcf.inv
  obtain ⟨kg, ng, asg⟩ := g
  obtain ⟨ag_, cg_, vsg, rfl, hrg, hlg, htg⟩ := hcg.inv
  obtain ⟨kp, np, asp⟩ := p
  obtain ⟨ap_, cp_, vsp, rfl, hrp, hlp, htp⟩ := hcp.inv
  obtain ⟨ko, no, aso⟩ := o
  obtain ⟨ao_, co_, vso, rfl, hro, hlo, hto⟩ := hco.inv
  refine FnG.of 29 [.cell 10 26] Go.Proofs.Tryd.func11 rfl rfl rfl rfl (fun G hG => ?_)
  refine T.seq ?_
  refine T.region ?_
  refine TL.cons rfl (T1.boxN 3 rfl rfl (fun b5 => ?_))
  refine TL.cons rfl (T1.boxN 3 rfl rfl (fun b6 => ?_))
  refine TL.cons rfl (T1.boxN 3 rfl rfl (fun b7 => ?_))
  refine TL.cons rfl (T1.boxN 3 rfl rfl (fun b8 => ?_))
  refine TL.cons rfl (T1.boxN 3 rfl rfl (fun b9 => ?_))
  refine TL.cons rfl (T1.allocN 3 zr_26 rfl (fun b10 => ?_))
  refine TL.nil ?_
  refine T.seq ?_
  refine T.drawM (FL [MV (.agg [.int .i64 ka, .string (bstr na), .slice aa_ asa.length ca_].toArray), MV (.agg [.int .i64 kp, .string (bstr np), .slice ap_ asp.length cp_].toArray), MRow w0 Ps 2 ([.int .i64 ka, .string (bstr na), .slice aa_ asa.length ca_] ++ [.int .i64 kp, .string (bstr np), .slice ap_ asp.length cp_]), MTm w0 Ps 7 [] 2 ([(Tm.mk ka na asa), (Tm.mk kp np asp)]), MV (.agg [.int .i64 kf, .string (bstr nf), .slice af_ asf.length cf_].toArray), MV (.agg [.int .i64 kg, .string (bstr ng), .slice ag_ asg.length cg_].toArray), MRow w0 Ps 2 ([.int .i64 kf, .string (bstr nf), .slice af_ asf.length cf_] ++ [.int .i64 kg, .string (bstr ng), .slice ag_ asg.length cg_]), MTm w0 Ps 7 [] 2 ([(Tm.mk kf nf asf), (Tm.mk kg ng asg)]), MV (.agg [.int .i64 kf, .string (bstr nf), .slice af_ asf.length cf_].toArray), MV (.agg [.int .i64 kp, .string (bstr np), .slice ap_ asp.length cp_].toArray), MRow w0 Ps 2 ([.int .i64 kf, .string (bstr nf), .slice af_ asf.length cf_] ++ [.int .i64 kp, .string (bstr np), .slice ap_ asp.length cp_]), MTm w0 Ps 7 [] 2 ([(Tm.mk kf nf asf), (Tm.mk kp np asp)]), MV (.agg [.int .i64 kf, .string (bstr nf), .slice af_ asf.length cf_].toArray), MV (.agg [.int .i64 ko, .string (bstr no), .slice ao_ aso.length co_].toArray), MRow w0 Ps 2 ([.int .i64 kf, .string (bstr nf), .slice af_ asf.length cf_] ++ [.int .i64 ko, .string (bstr no), .slice ao_ aso.length co_]), MTm w0 Ps 7 [] 2 ([(Tm.mk kf nf asf), (Tm.mk ko no aso)]), MTms w0 Ps 4 ([ag (Tm.mk ka na asa) (Tm.mk kp np asp), ag (Tm.mk kf nf asf) (Tm.mk kg ng asg), ag (Tm.mk kf nf asf) (Tm.mk kp np asp), ag (Tm.mk kf nf asf) (Tm.mk ko no aso)]), MTm w0 Ps 4 wAg 4 ([ag (Tm.mk ka na asa) (Tm.mk kp np asp), ag (Tm.mk kf nf asf) (Tm.mk kg ng asg), ag (Tm.mk kf nf asf) (Tm.mk kp np asp), ag (Tm.mk kf nf asf) (Tm.mk ko no aso)]), MT]) 18 mixed (by decide +kernel) (by decide +kernel) (FMono.at (.cons MV.mono (.cons MV.mono (.cons MRow.mono (.cons MTm.mono (.cons MV.mono (.cons MV.mono (.cons MRow.mono (.cons MTm.mono (.cons MV.mono (.cons MV.mono (.cons MRow.mono (.cons MTm.mono (.cons MV.mono (.cons MV.mono (.cons MRow.mono (.cons MTm.mono (.cons MTms.mono (.cons MTm.mono (.cons MT.mono .nil)))))))))))))))))))) ?_ ?_
  ·
    refine MOps.cons (fun e_ Y_ hp_ hs_ => ?_) ?_
    ·
      refine MOp.of (tr := [(5, _)]) (.cons ((hs_ 5 (by rfl)).trans (by (conv => lhs; whnf) <;> rfl)) .nil) ?_
      refine V1.t (V1.loadN one_26 sz_26 rfl (RdN.whole (by repeat (first | exact Find.here | assumption | apply Find.there | apply Find.far))) (by rfl)) ?_
      exact ⟨_, [], rfl, rfl, rfl⟩
    refine MOps.cons (fun e_ Y_ hp_ hs_ => ?_) ?_
    ·
      refine MOp.of (tr := [(8, _)]) (.cons ((hs_ 8 (by rfl)).trans (by (conv => lhs; whnf) <;> rfl)) .nil) ?_
      refine V1.t (V1.loadN one_26 sz_26 rfl (RdN.whole (by repeat (first | exact Find.here | assumption | apply Find.there | apply Find.far))) (by rfl)) ?_
      exact ⟨_, [], rfl, rfl, rfl⟩
    refine MOps.cons (fun e_ Y_ hp_ hs_ => ?_) ?_
    ·
      refine MOp.of (tr := [(11, _), (12, _)]) (.cons (show MV (.agg [.int .i64 ka, .string (bstr na), .slice aa_ asa.length ca_].toArray) (e_ 11) Y_ from hp_ 0 11 (by rfl) (by rfl)) (.cons (show MV (.agg [.int .i64 kp, .string (bstr np), .slice ap_ asp.length cp_].toArray) (e_ 12) Y_ from hp_ 1 12 (by rfl) (by rfl)) .nil)) ?_
      refine T1.buildTwo (cs := [.int .i64 ka, .string (bstr na), .slice aa_ asa.length ca_]) (ds := [.int .i64 kp, .string (bstr np), .slice ap_ asp.length cp_]) ty_23 sz_26 zr_26 (by decide) rfl rfl (by rfl) (by rfl) (fun b13 => ?_)
      exact ⟨_, [(⟨⟨b13, some 26⟩, 0, [.int .i64 ka, .string (bstr na), .slice aa_ asa.length ca_] ++ [.int .i64 kp, .string (bstr np), .slice ap_ asp.length cp_], 2 * 3⟩ : Blk)], rfl, rfl, ⟨_, _, rfl, RowR.own (List.mem_cons_self ..) rfl⟩⟩
    refine MOps.cons (fun e_ Y_ hp_ hs_ => ?_) ?_
    ·
      obtain ⟨a13, c13, h13, f13⟩ := (show (MRow w0 Ps 2 ([.int .i64 ka, .string (bstr na), .slice aa_ asa.length ca_] ++ [.int .i64 kp, .string (bstr np), .slice ap_ asp.length cp_])) (e_ 13) Y_ from hp_ 2 13 (by rfl) (by rfl))
      refine MOp.of (tr := [(13, _)]) (.cons h13 .nil) ?_
      refine T1.callV has_14 rfl rfl (tof_any w0 [] 7 [] _ rfl) (by repeat (first | exact Inc.nil | assumption | exact Inc.refl | exact Inc.here | apply Inc.app | apply Inc.cons (by repeat (first | exact Find.here | assumption | apply Find.there | apply Find.far)) | apply Inc.skip1 | apply Inc.skip)) (fun v_ hv => ?_)
      obtain rfl := hv
      exact ⟨_, [], rfl, rfl, ⟨_, _, rfl, TmR.mkN (n := 2) rfl f13 (by decide) (TmsR.cons (hca.more (Inc.skip Inc.refl)) (TmsR.one (hcp.more (Inc.skip Inc.refl))))⟩⟩
    refine MOps.cons (fun e_ Y_ hp_ hs_ => ?_) ?_
    ·
      refine MOp.of (tr := [(6, _)]) (.cons ((hs_ 6 (by rfl)).trans (by (conv => lhs; whnf) <;> rfl)) .nil) ?_
      refine V1.t (V1.loadN one_26 sz_26 rfl (RdN.whole (by repeat (first | exact Find.here | assumption | apply Find.there | apply Find.far))) (by rfl)) ?_
      exact ⟨_, [], rfl, rfl, rfl⟩
    refine MOps.cons (fun e_ Y_ hp_ hs_ => ?_) ?_
    ·
      refine MOp.of (tr := [(7, _)]) (.cons ((hs_ 7 (by rfl)).trans (by (conv => lhs; whnf) <;> rfl)) .nil) ?_
      refine V1.t (V1.loadN one_26 sz_26 rfl (RdN.whole (by repeat (first | exact Find.here | assumption | apply Find.there | apply Find.far))) (by rfl)) ?_
      exact ⟨_, [], rfl, rfl, rfl⟩
    refine MOps.cons (fun e_ Y_ hp_ hs_ => ?_) ?_
    ·
      refine MOp.of (tr := [(15, _), (16, _)]) (.cons (show MV (.agg [.int .i64 kf, .string (bstr nf), .slice af_ asf.length cf_].toArray) (e_ 15) Y_ from hp_ 4 15 (by rfl) (by rfl)) (.cons (show MV (.agg [.int .i64 kg, .string (bstr ng), .slice ag_ asg.length cg_].toArray) (e_ 16) Y_ from hp_ 5 16 (by rfl) (by rfl)) .nil)) ?_
      refine T1.buildTwo (cs := [.int .i64 kf, .string (bstr nf), .slice af_ asf.length cf_]) (ds := [.int .i64 kg, .string (bstr ng), .slice ag_ asg.length cg_]) ty_23 sz_26 zr_26 (by decide) rfl rfl (by rfl) (by rfl) (fun b17 => ?_)
      exact ⟨_, [(⟨⟨b17, some 26⟩, 0, [.int .i64 kf, .string (bstr nf), .slice af_ asf.length cf_] ++ [.int .i64 kg, .string (bstr ng), .slice ag_ asg.length cg_], 2 * 3⟩ : Blk)], rfl, rfl, ⟨_, _, rfl, RowR.own (List.mem_cons_self ..) rfl⟩⟩
    refine MOps.cons (fun e_ Y_ hp_ hs_ => ?_) ?_
    ·
      obtain ⟨a17, c17, h17, f17⟩ := (show (MRow w0 Ps 2 ([.int .i64 kf, .string (bstr nf), .slice af_ asf.length cf_] ++ [.int .i64 kg, .string (bstr ng), .slice ag_ asg.length cg_])) (e_ 17) Y_ from hp_ 6 17 (by rfl) (by rfl))
      refine MOp.of (tr := [(17, _)]) (.cons h17 .nil) ?_
      refine T1.callV has_14 rfl rfl (tof_any w0 [] 7 [] _ rfl) (by repeat (first | exact Inc.nil | assumption | exact Inc.refl | exact Inc.here | apply Inc.app | apply Inc.cons (by repeat (first | exact Find.here | assumption | apply Find.there | apply Find.far)) | apply Inc.skip1 | apply Inc.skip)) (fun v_ hv => ?_)
      obtain rfl := hv
      exact ⟨_, [], rfl, rfl, ⟨_, _, rfl, TmR.mkN (n := 2) rfl f17 (by decide) (TmsR.cons (hcf.more (Inc.skip Inc.refl)) (TmsR.one (hcg.more (Inc.skip Inc.refl))))⟩⟩
    refine MOps.cons (fun e_ Y_ hp_ hs_ => ?_) ?_
    ·
      refine MOp.of (tr := [(6, _)]) (.cons ((hs_ 6 (by rfl)).trans (by (conv => lhs; whnf) <;> rfl)) .nil) ?_
      refine V1.t (V1.loadN one_26 sz_26 rfl (RdN.whole (by repeat (first | exact Find.here | assumption | apply Find.there | apply Find.far))) (by rfl)) ?_
      exact ⟨_, [], rfl, rfl, rfl⟩
    refine MOps.cons (fun e_ Y_ hp_ hs_ => ?_) ?_
    ·
      refine MOp.of (tr := [(8, _)]) (.cons ((hs_ 8 (by rfl)).trans (by (conv => lhs; whnf) <;> rfl)) .nil) ?_
      refine V1.t (V1.loadN one_26 sz_26 rfl (RdN.whole (by repeat (first | exact Find.here | assumption | apply Find.there | apply Find.far))) (by rfl)) ?_
      exact ⟨_, [], rfl, rfl, rfl⟩
    refine MOps.cons (fun e_ Y_ hp_ hs_ => ?_) ?_
    ·
      refine MOp.of (tr := [(19, _), (20, _)]) (.cons (show MV (.agg [.int .i64 kf, .string (bstr nf), .slice af_ asf.length cf_].toArray) (e_ 19) Y_ from hp_ 8 19 (by rfl) (by rfl)) (.cons (show MV (.agg [.int .i64 kp, .string (bstr np), .slice ap_ asp.length cp_].toArray) (e_ 20) Y_ from hp_ 9 20 (by rfl) (by rfl)) .nil)) ?_
      refine T1.buildTwo (cs := [.int .i64 kf, .string (bstr nf), .slice af_ asf.length cf_]) (ds := [.int .i64 kp, .string (bstr np), .slice ap_ asp.length cp_]) ty_23 sz_26 zr_26 (by decide) rfl rfl (by rfl) (by rfl) (fun b21 => ?_)
      exact ⟨_, [(⟨⟨b21, some 26⟩, 0, [.int .i64 kf, .string (bstr nf), .slice af_ asf.length cf_] ++ [.int .i64 kp, .string (bstr np), .slice ap_ asp.length cp_], 2 * 3⟩ : Blk)], rfl, rfl, ⟨_, _, rfl, RowR.own (List.mem_cons_self ..) rfl⟩⟩
    refine MOps.cons (fun e_ Y_ hp_ hs_ => ?_) ?_
    ·
      obtain ⟨a21, c21, h21, f21⟩ := (show (MRow w0 Ps 2 ([.int .i64 kf, .string (bstr nf), .slice af_ asf.length cf_] ++ [.int .i64 kp, .string (bstr np), .slice ap_ asp.length cp_])) (e_ 21) Y_ from hp_ 10 21 (by rfl) (by rfl))
      refine MOp.of (tr := [(21, _)]) (.cons h21 .nil) ?_
      refine T1.callV has_14 rfl rfl (tof_any w0 [] 7 [] _ rfl) (by repeat (first | exact Inc.nil | assumption | exact Inc.refl | exact Inc.here | apply Inc.app | apply Inc.cons (by repeat (first | exact Find.here | assumption | apply Find.there | apply Find.far)) | apply Inc.skip1 | apply Inc.skip)) (fun v_ hv => ?_)
      obtain rfl := hv
      exact ⟨_, [], rfl, rfl, ⟨_, _, rfl, TmR.mkN (n := 2) rfl f21 (by decide) (TmsR.cons (hcf.more (Inc.skip Inc.refl)) (TmsR.one (hcp.more (Inc.skip Inc.refl))))⟩⟩
    refine MOps.cons (fun e_ Y_ hp_ hs_ => ?_) ?_
    ·
      refine MOp.of (tr := [(6, _)]) (.cons ((hs_ 6 (by rfl)).trans (by (conv => lhs; whnf) <;> rfl)) .nil) ?_
      refine V1.t (V1.loadN one_26 sz_26 rfl (RdN.whole (by repeat (first | exact Find.here | assumption | apply Find.there | apply Find.far))) (by rfl)) ?_
      exact ⟨_, [], rfl, rfl, rfl⟩
    refine MOps.cons (fun e_ Y_ hp_ hs_ => ?_) ?_
    ·
      refine MOp.of (tr := [(9, _)]) (.cons ((hs_ 9 (by rfl)).trans (by (conv => lhs; whnf) <;> rfl)) .nil) ?_
      refine V1.t (V1.loadN one_26 sz_26 rfl (RdN.whole (by repeat (first | exact Find.here | assumption | apply Find.there | apply Find.far))) (by rfl)) ?_
      exact ⟨_, [], rfl, rfl, rfl⟩
    refine MOps.cons (fun e_ Y_ hp_ hs_ => ?_) ?_
    ·
      refine MOp.of (tr := [(23, _), (24, _)]) (.cons (show MV (.agg [.int .i64 kf, .string (bstr nf), .slice af_ asf.length cf_].toArray) (e_ 23) Y_ from hp_ 12 23 (by rfl) (by rfl)) (.cons (show MV (.agg [.int .i64 ko, .string (bstr no), .slice ao_ aso.length co_].toArray) (e_ 24) Y_ from hp_ 13 24 (by rfl) (by rfl)) .nil)) ?_
      refine T1.buildTwo (cs := [.int .i64 kf, .string (bstr nf), .slice af_ asf.length cf_]) (ds := [.int .i64 ko, .string (bstr no), .slice ao_ aso.length co_]) ty_23 sz_26 zr_26 (by decide) rfl rfl (by rfl) (by rfl) (fun b25 => ?_)
      exact ⟨_, [(⟨⟨b25, some 26⟩, 0, [.int .i64 kf, .string (bstr nf), .slice af_ asf.length cf_] ++ [.int .i64 ko, .string (bstr no), .slice ao_ aso.length co_], 2 * 3⟩ : Blk)], rfl, rfl, ⟨_, _, rfl, RowR.own (List.mem_cons_self ..) rfl⟩⟩
    refine MOps.cons (fun e_ Y_ hp_ hs_ => ?_) ?_
    ·
      obtain ⟨a25, c25, h25, f25⟩ := (show (MRow w0 Ps 2 ([.int .i64 kf, .string (bstr nf), .slice af_ asf.length cf_] ++ [.int .i64 ko, .string (bstr no), .slice ao_ aso.length co_])) (e_ 25) Y_ from hp_ 14 25 (by rfl) (by rfl))
      refine MOp.of (tr := [(25, _)]) (.cons h25 .nil) ?_
      refine T1.callV has_14 rfl rfl (tof_any w0 [] 7 [] _ rfl) (by repeat (first | exact Inc.nil | assumption | exact Inc.refl | exact Inc.here | apply Inc.app | apply Inc.cons (by repeat (first | exact Find.here | assumption | apply Find.there | apply Find.far)) | apply Inc.skip1 | apply Inc.skip)) (fun v_ hv => ?_)
      obtain rfl := hv
      exact ⟨_, [], rfl, rfl, ⟨_, _, rfl, TmR.mkN (n := 2) rfl f25 (by decide) (TmsR.cons (hcf.more (Inc.skip Inc.refl)) (TmsR.one (hco.more (Inc.skip Inc.refl))))⟩⟩
    refine MOps.cons (fun e_ Y_ hp_ hs_ => ?_) ?_
    ·
      obtain ⟨a14, c14, h14, f14⟩ := (show (MTm w0 Ps 7 [] 2 ([(Tm.mk ka na asa), (Tm.mk kp np asp)])) (e_ 14) Y_ from hp_ 3 14 (by rfl) (by rfl))
      obtain ⟨a18, c18, h18, f18⟩ := (show (MTm w0 Ps 7 [] 2 ([(Tm.mk kf nf asf), (Tm.mk kg ng asg)])) (e_ 18) Y_ from hp_ 7 18 (by rfl) (by rfl))
      obtain ⟨a22, c22, h22, f22⟩ := (show (MTm w0 Ps 7 [] 2 ([(Tm.mk kf nf asf), (Tm.mk kp np asp)])) (e_ 22) Y_ from hp_ 11 22 (by rfl) (by rfl))
      obtain ⟨a26, c26, h26, f26⟩ := (show (MTm w0 Ps 7 [] 2 ([(Tm.mk kf nf asf), (Tm.mk ko no aso)])) (e_ 26) Y_ from hp_ 15 26 (by rfl) (by rfl))
      refine MOp.of (tr := [(14, _), (18, _), (22, _), (26, _)]) (.cons h14 (.cons h18 (.cons h22 (.cons h26 .nil)))) ?_
      refine T1.buildMany (vss := [[.int .i64 7, .string (bstr []), .slice a14 2 c14], [.int .i64 7, .string (bstr []), .slice a18 2 c18], [.int .i64 7, .string (bstr []), .slice a22 2 c22], [.int .i64 7, .string (bstr []), .slice a26 2 c26]]) (os := [.tmp 14, .tmp 18, .tmp 22, .tmp 26]) ty_23 sz_26 zr_26 (by decide) rfl (.cons rfl (.cons rfl (.cons rfl (.cons rfl .nil)))) rfl (by intro l hl; simp only [List.mem_cons, List.not_mem_nil, or_false] at hl; rcases hl with rfl | rfl | rfl | rfl <;> rfl) (fun b27 => ?_)
      exact ⟨_, [(⟨⟨b27, some 26⟩, 0, [[.int .i64 7, .string (bstr []), .slice a14 2 c14], [.int .i64 7, .string (bstr []), .slice a18 2 c18], [.int .i64 7, .string (bstr []), .slice a22 2 c22], [.int .i64 7, .string (bstr []), .slice a26 2 c26]].flatten, 4 * 3⟩ : Blk)], rfl, rfl, ⟨_, _, _, rfl, RowR.own (List.mem_cons_self ..) rfl, TmsR.cons (f14.more (by intro B_ hB_; simp only [List.mem_append, List.mem_cons] at hB_ ⊢; grind)) (TmsR.cons (f18.more (by intro B_ hB_; simp only [List.mem_append, List.mem_cons] at hB_ ⊢; grind)) (TmsR.cons (f22.more (by intro B_ hB_; simp only [List.mem_append, List.mem_cons] at hB_ ⊢; grind)) (TmsR.one (f26.more (by intro B_ hB_; simp only [List.mem_append, List.mem_cons] at hB_ ⊢; grind)))))⟩⟩
    refine MOps.cons (fun e_ Y_ hp_ hs_ => ?_) ?_
    ·
      obtain ⟨a27, c27, vs27, h27, f27, g27⟩ := (show (MTms w0 Ps 4 ([ag (Tm.mk ka na asa) (Tm.mk kp np asp), ag (Tm.mk kf nf asf) (Tm.mk kg ng asg), ag (Tm.mk kf nf asf) (Tm.mk kp np asp), ag (Tm.mk kf nf asf) (Tm.mk ko no aso)])) (e_ 27) Y_ from hp_ 16 27 (by rfl) (by rfl))
      refine MOp.of (tr := [(27, _)]) (.cons h27 .nil) ?_
      refine T1.callV has_14 rfl rfl (tof_any w0 [] 4 wAg _ rfl) (by repeat (first | exact Inc.nil | assumption | exact Inc.refl | exact Inc.here | apply Inc.app | apply Inc.cons (by repeat (first | exact Find.here | assumption | apply Find.there | apply Find.far)) | apply Inc.skip1 | apply Inc.skip)) (fun v_ hv => ?_)
      obtain rfl := hv
      exact ⟨_, [], rfl, rfl, ⟨_, _, rfl, TmR.mkN (n := 4) rfl f27 (by decide) g27⟩⟩
    refine MOps.last ?_
    exact MOps.nil
  · intro e_ Y_ hp_ hs_
    obtain ⟨a28, c28, h28, f28⟩ := (show (MTm w0 Ps 4 wAg 4 ([ag (Tm.mk ka na asa) (Tm.mk kp np asp), ag (Tm.mk kf nf asf) (Tm.mk kg ng asg), ag (Tm.mk kf nf asf) (Tm.mk kp np asp), ag (Tm.mk kf nf asf) (Tm.mk ko no aso)])) (e_ 28) Y_ from hp_ 17 28 (by decide) (by rfl))
    refine T1.known (tr := [(10, _), (28, _)]) (.cons ((hs_ 10 (by rfl)).trans (by (conv => lhs; whnf) <;> rfl)) (.cons h28 .nil)) ?_
    refine T1.storeN rfl rfl sz_26 (ones rfl) (by repeat (first | exact Sub.one | apply Sub.there | apply Sub.far)) (by rfl) (by rfl) ?_
    refine T.ret ?_
    exact ⟨_, Y_ ++ G, _, .cons (.cellN (by (conv => lhs; whnf) <;> rfl) one_26 sz_26 (RdN.whole (by repeat (first | exact Find.here | assumption | apply Find.there | apply Find.far))) (by rfl)) .nil, (by repeat (first | exact Take.nil | apply Take.one (by repeat (first | exact Pick.here | apply Pick.there | apply Pick.far)) | apply Take.seg (by repeat (first | exact PickS.last | exact PickS.one | exact PickS.here | exact PickS.nil | apply PickS.there | apply PickS.far)) | exact Take.last (by repeat (first | exact PickS.last | exact PickS.one | exact PickS.here | exact PickS.nil | apply PickS.there | apply PickS.far)))), Y_, rfl, _, _, rfl, f28⟩

/-- An atom with a short name. -/
def Small (y : Tm) : Prop := y.kind = 1 ∧ y.name.length < 6
theorem free_of {x : Tm} {us : List Tm} (hm : ∀ y, y ∈ us ↔ y ∈ subs x) (h : ∀ y ∈ us, ¬ Small y) : Free x := by
  intro n hn h'
  refine h _ ((hm _).2 h') ⟨rfl, ?_⟩
  exact (show ∀ n ∈ wW :: wNames, (at_ n).name.length < 6 by decide) n hn
theorem take_one {ts : List Tm} {j : Nat} {x : Tm} (hx : ts[j]? = some x) : ts.take (j + 1) = ts.take j ++ [x] := by rw [List.take_add_one, hx]; rfl
theorem wt_step {h : List Bool} {i : Nat} {n : List UInt8} {b : Bool} (hn : wNames[i]? = some n) (hb : h[i]? = some b) (hp : nparts (wtBase h i) ≤ 20 + 3 * i) : nparts (wtBase h (i + 1)) ≤ 20 + 3 * (i + 1) := by
  rw [wtBase_next hn hb, nparts_app]
  have := wtOne_parts (List.mem_of_getElem? hn) b
  omega
theorem ansB_is {ts : List Tm} {t : Tm} {b : Bool} (h : Ans ts t ↔ b = true) : ansB ts t = b := by rw [Bool.eq_iff_iff, ansB_iff]; exact h

set_option maxRecDepth 100000 in
set_option maxHeartbeats 8000000 in
theorem WholeThought_any (w0 : World) (h0 h1 h2 h3 h4 : Bool) {ts : List Tm} {a : Option Addr} {c : Nat} {vs : List Value} (hr : RowR w0 [] 3 (.slice a ts.length c) ts.length vs) (ht : TmsR w0 [] ts vs) (hb : ts.length * 48 ≤ 140737488351232) : FnV P 3 [.agg (List.toArray [.bool h0, .bool h1, .bool h2, .bool h3, .bool h4]), .slice a ts.length c] w0 [] (fun v => v = .bool true) := by
  refine FnV.of 197 [.tmp 4] Go.Proofs.Tryd.func3 rfl rfl rfl rfl (fun G hG => ?_)
  refine T.seq ?_
  refine T.region ?_
  refine TL.cons rfl (T1.boxN 5 rfl rfl (fun b2 => ?_))
  refine TL.cons rfl (V1.t (V1.assign' (by (conv => lhs; whnf) <;> rfl)) ?_)
  refine TL.nil ?_
  refine T.seq ?_
  refine T.region ?_
  refine TL.cons rfl (V1.t (V1.buildFA ty_24 sz_9 zr_24 (.one rfl (by (conv => lhs; whnf) <;> rfl) rfl (.one rfl (by (conv => lhs; whnf) <;> rfl) rfl (.one rfl (by (conv => lhs; whnf) <;> rfl) rfl (.one rfl (by (conv => lhs; whnf) <;> rfl) rfl (.one rfl (by (conv => lhs; whnf) <;> rfl) rfl .nil))))) (by repeat (first | exact FillL.nil | exact SetN.done | apply SetN.here | apply SetN.there | apply FillL.cons))) ?_)
  refine TL.cons rfl (T1.allocN 5 zr_24 rfl (fun b5 => ?_))
  refine TL.cons rfl (T1.storeN rfl rfl sz_24 (ones rfl) (by repeat (first | exact Sub.one | apply Sub.there | apply Sub.far)) (by rfl) (by rfl) ?_)
  refine TL.nil ?_
  refine T.cut (σ := Nat × Option Addr × Nat × List Blk) (l0 := [(1, _), (2, _), (5, _)]) (fun x => [(6, .pointer (some ⟨x.1, 0, none⟩))]) (fun x L => L = ⟨x.1, 0, [.int .i64 4, .string (bstr wAg), .slice x.2.1 4 x.2.2.1], 3⟩ :: (x.2.2.2 ++ (⟨b5, 0, (wNames.map fun l => Value.string (bstr l)), 5⟩ :: ⟨b2, 0, [.bool h0, .bool h1, .bool h2, .bool h3, .bool h4], 5⟩ :: G)) ∧ TmR w0 x.2.2.2 wtKey [.int .i64 4, .string (bstr wAg), .slice x.2.1 4 x.2.2.1]) (.cons (by (conv => lhs; whnf) <;> rfl) (.cons (by (conv => lhs; whnf) <;> rfl) (.cons (by (conv => lhs; whnf) <;> rfl) .nil))) ?_ ?_
  ·
    refine T.region ?_
    refine TL.cons rfl (T1.callV has_12 rfl rfl (Of_any w0 [] wA) (by repeat (first | exact Inc.nil | assumption | exact Inc.refl | exact Inc.here | apply Inc.app | apply Inc.cons (by repeat (first | exact Find.here | assumption | apply Find.there | apply Find.far)) | apply Inc.skip1 | apply Inc.skip)) (fun v_ hv => ?_))
    obtain rfl := hv
    refine TL.cons rfl (T1.callV has_12 rfl rfl (Of_any w0 [] wF) (by repeat (first | exact Inc.nil | assumption | exact Inc.refl | exact Inc.here | apply Inc.app | apply Inc.cons (by repeat (first | exact Find.here | assumption | apply Find.there | apply Find.far)) | apply Inc.skip1 | apply Inc.skip)) (fun v_ hv => ?_))
    obtain rfl := hv
    refine TL.cons rfl (T1.callC has_13 rfl rfl (tpub_any w0 [] wB) (by repeat (first | exact Inc.nil | assumption | exact Inc.refl | exact Inc.here | apply Inc.app | apply Inc.cons (by repeat (first | exact Find.here | assumption | apply Find.there | apply Find.far)) | apply Inc.skip1 | apply Inc.skip)) (fun v_ Y1 hY => ?_))
    obtain ⟨a1, c1, rfl, hp1⟩ := hY
    refine TL.cons rfl (T1.callC has_13 rfl rfl (tpub_any w0 [] wP) (by repeat (first | exact Inc.nil | assumption | exact Inc.refl | exact Inc.here | apply Inc.app | apply Inc.cons (by repeat (first | exact Find.here | assumption | apply Find.there | apply Find.far)) | apply Inc.skip1 | apply Inc.skip)) (fun v_ Y2 hY => ?_))
    obtain ⟨a2, c2, rfl, hp2⟩ := hY
    refine TL.cons rfl (T1.callC has_13 rfl rfl (tpub_any w0 [] wO) (by repeat (first | exact Inc.nil | assumption | exact Inc.refl | exact Inc.here | apply Inc.app | apply Inc.cons (by repeat (first | exact Find.here | assumption | apply Find.there | apply Find.far)) | apply Inc.skip1 | apply Inc.skip)) (fun v_ Y3 hY => ?_))
    obtain ⟨a3, c3, rfl, hp3⟩ := hY
    refine TL.cons rfl (T1.callC has_11 rfl rfl (tsec_any w0 (Y3 ++ (Y2 ++ (Y1 ++ []))) (a := at_ wA) (f := at_ wF) (g := pub (at_ wB)) (p := pub (at_ wP)) (o := pub (at_ wO)) TmR.atom TmR.atom (hp1.more (by repeat (first | exact Inc.nil | assumption | exact Inc.refl | exact Inc.here | apply Inc.app | apply Inc.cons (by repeat (first | exact Find.here | assumption | apply Find.there | apply Find.far)) | apply Inc.skip1 | apply Inc.skip))) (hp2.more (by repeat (first | exact Inc.nil | assumption | exact Inc.refl | exact Inc.here | apply Inc.app | apply Inc.cons (by repeat (first | exact Find.here | assumption | apply Find.there | apply Find.far)) | apply Inc.skip1 | apply Inc.skip))) (hp3.more (by repeat (first | exact Inc.nil | assumption | exact Inc.refl | exact Inc.here | apply Inc.app | apply Inc.cons (by repeat (first | exact Find.here | assumption | apply Find.there | apply Find.far)) | apply Inc.skip1 | apply Inc.skip)))) (by repeat (first | exact Inc.nil | assumption | exact Inc.refl | exact Inc.here | apply Inc.app | apply Inc.cons (by repeat (first | exact Find.here | assumption | apply Find.there | apply Find.far)) | apply Inc.skip1 | apply Inc.skip)) (fun v_ Y4 hY => ?_))
    obtain ⟨ak, ck, rfl, hkey⟩ := hY
    refine TL.cons rfl (T1.allocN 3 zr_26 rfl (fun b6 => ?_))
    refine TL.cons rfl (T1.storeN rfl rfl sz_26 (ones rfl) (by repeat (first | exact Sub.one | apply Sub.there | apply Sub.far)) (by rfl) (by rfl) ?_)
    refine TL.nil ?_
    exact ⟨(b6, ak, ck, Y4 ++ (Y3 ++ (Y2 ++ (Y1 ++ [])))), ⟨b6, 0, [.int .i64 4, .string (bstr wAg), .slice ak 4 ck], 3⟩ :: (Y4 ++ (Y3 ++ (Y2 ++ (Y1 ++ (⟨b5, 0, (wNames.map fun l => Value.string (bstr l)), 5⟩ :: ⟨b2, 0, [.bool h0, .bool h1, .bool h2, .bool h3, .bool h4], 5⟩ :: G))))), _, trivial, (.cons rfl .nil), (.cons rfl (.cons rfl (.cons rfl .nil))), (by repeat (first | exact Take.nil | apply Take.one (by repeat (first | exact Pick.here | apply Pick.there | apply Pick.far)) | apply Take.seg (by repeat (first | exact PickS.last | exact PickS.one | exact PickS.here | exact PickS.nil | apply PickS.there | apply PickS.far)) | exact Take.last (by repeat (first | exact PickS.last | exact PickS.one | exact PickS.here | exact PickS.nil | apply PickS.there | apply PickS.far)))), ⟨by simp [List.append_assoc], hkey⟩⟩
  ·
    rintro ⟨b6, ak, ck, Qk⟩ e_ L ⟨rfl, hkey⟩
    simp only at hkey
    refine T.seq ?_
    refine T.region ?_
    refine TL.cons rfl (T1.callV has_12 rfl rfl (Of_any w0 [] wP) (by repeat (first | exact Inc.nil | assumption | exact Inc.refl | exact Inc.here | apply Inc.app | apply Inc.cons (by repeat (first | exact Find.here | assumption | apply Find.there | apply Find.far)) | apply Inc.skip1 | apply Inc.skip)) (fun v_ hv => ?_))
    obtain rfl := hv
    refine TL.cons rfl (T1.callC has_13 rfl rfl (tpub_any w0 [] wA) (by repeat (first | exact Inc.nil | assumption | exact Inc.refl | exact Inc.here | apply Inc.app | apply Inc.cons (by repeat (first | exact Find.here | assumption | apply Find.there | apply Find.far)) | apply Inc.skip1 | apply Inc.skip)) (fun v_ Y1 hY => ?_))
    obtain ⟨a1, c1, rfl, hp1⟩ := hY
    refine TL.cons rfl (T1.buildTwo (cs := [.int .i64 1, .string (bstr wP), .slice none 0 0]) (ds := [.int .i64 5, .string (bstr []), .slice a1 1 c1]) ty_23 sz_26 zr_26 (by decide) rfl rfl (by rfl) (by rfl) (fun b32 => ?_))
    refine TL.cons rfl (T1.callV has_14 rfl rfl (tof_any w0 [] 7 [] _ rfl) (by repeat (first | exact Inc.nil | assumption | exact Inc.refl | exact Inc.here | apply Inc.app | apply Inc.cons (by repeat (first | exact Find.here | assumption | apply Find.there | apply Find.far)) | apply Inc.skip1 | apply Inc.skip)) (fun v_ hv => ?_))
    obtain rfl := hv
    refine TL.cons rfl (T1.callV has_12 rfl rfl (Of_any w0 [] wB) (by repeat (first | exact Inc.nil | assumption | exact Inc.refl | exact Inc.here | apply Inc.app | apply Inc.cons (by repeat (first | exact Find.here | assumption | apply Find.there | apply Find.far)) | apply Inc.skip1 | apply Inc.skip)) (fun v_ hv => ?_))
    obtain rfl := hv
    refine TL.cons rfl (T1.callC has_13 rfl rfl (tpub_any w0 [] wF) (by repeat (first | exact Inc.nil | assumption | exact Inc.refl | exact Inc.here | apply Inc.app | apply Inc.cons (by repeat (first | exact Find.here | assumption | apply Find.there | apply Find.far)) | apply Inc.skip1 | apply Inc.skip)) (fun v_ Y2 hY => ?_))
    obtain ⟨a2, c2, rfl, hp2⟩ := hY
    refine TL.cons rfl (T1.buildTwo (cs := [.int .i64 1, .string (bstr wB), .slice none 0 0]) (ds := [.int .i64 5, .string (bstr []), .slice a2 1 c2]) ty_23 sz_26 zr_26 (by decide) rfl rfl (by rfl) (by rfl) (fun b36 => ?_))
    refine TL.cons rfl (T1.callV has_14 rfl rfl (tof_any w0 [] 7 [] _ rfl) (by repeat (first | exact Inc.nil | assumption | exact Inc.refl | exact Inc.here | apply Inc.app | apply Inc.cons (by repeat (first | exact Find.here | assumption | apply Find.there | apply Find.far)) | apply Inc.skip1 | apply Inc.skip)) (fun v_ hv => ?_))
    obtain rfl := hv
    refine TL.cons rfl (T1.callV has_12 rfl rfl (Of_any w0 [] wP) (by repeat (first | exact Inc.nil | assumption | exact Inc.refl | exact Inc.here | apply Inc.app | apply Inc.cons (by repeat (first | exact Find.here | assumption | apply Find.there | apply Find.far)) | apply Inc.skip1 | apply Inc.skip)) (fun v_ hv => ?_))
    obtain rfl := hv
    refine TL.cons rfl (T1.callC has_13 rfl rfl (tpub_any w0 [] wF) (by repeat (first | exact Inc.nil | assumption | exact Inc.refl | exact Inc.here | apply Inc.app | apply Inc.cons (by repeat (first | exact Find.here | assumption | apply Find.there | apply Find.far)) | apply Inc.skip1 | apply Inc.skip)) (fun v_ Y3 hY => ?_))
    obtain ⟨a3, c3, rfl, hp3⟩ := hY
    refine TL.cons rfl (T1.buildTwo (cs := [.int .i64 1, .string (bstr wP), .slice none 0 0]) (ds := [.int .i64 5, .string (bstr []), .slice a3 1 c3]) ty_23 sz_26 zr_26 (by decide) rfl rfl (by rfl) (by rfl) (fun b40 => ?_))
    refine TL.cons rfl (T1.callV has_14 rfl rfl (tof_any w0 [] 7 [] _ rfl) (by repeat (first | exact Inc.nil | assumption | exact Inc.refl | exact Inc.here | apply Inc.app | apply Inc.cons (by repeat (first | exact Find.here | assumption | apply Find.there | apply Find.far)) | apply Inc.skip1 | apply Inc.skip)) (fun v_ hv => ?_))
    obtain rfl := hv
    refine TL.cons rfl (T1.callV has_12 rfl rfl (Of_any w0 [] wO) (by repeat (first | exact Inc.nil | assumption | exact Inc.refl | exact Inc.here | apply Inc.app | apply Inc.cons (by repeat (first | exact Find.here | assumption | apply Find.there | apply Find.far)) | apply Inc.skip1 | apply Inc.skip)) (fun v_ hv => ?_))
    obtain rfl := hv
    refine TL.cons rfl (T1.callC has_13 rfl rfl (tpub_any w0 [] wF) (by repeat (first | exact Inc.nil | assumption | exact Inc.refl | exact Inc.here | apply Inc.app | apply Inc.cons (by repeat (first | exact Find.here | assumption | apply Find.there | apply Find.far)) | apply Inc.skip1 | apply Inc.skip)) (fun v_ Y4 hY => ?_))
    obtain ⟨a4, c4, rfl, hp4⟩ := hY
    refine TL.cons rfl (T1.buildTwo (cs := [.int .i64 1, .string (bstr wO), .slice none 0 0]) (ds := [.int .i64 5, .string (bstr []), .slice a4 1 c4]) ty_23 sz_26 zr_26 (by decide) rfl rfl (by rfl) (by rfl) (fun b44 => ?_))
    refine TL.cons rfl (T1.callV has_14 rfl rfl (tof_any w0 [] 7 [] _ rfl) (by repeat (first | exact Inc.nil | assumption | exact Inc.refl | exact Inc.here | apply Inc.app | apply Inc.cons (by repeat (first | exact Find.here | assumption | apply Find.there | apply Find.far)) | apply Inc.skip1 | apply Inc.skip)) (fun v_ hv => ?_))
    obtain rfl := hv
    refine TL.cons rfl (T1.buildMany (vss := [[.int .i64 7, .string (bstr []), .slice (some ⟨b32, 0, none⟩) 2 2], [.int .i64 7, .string (bstr []), .slice (some ⟨b36, 0, none⟩) 2 2], [.int .i64 7, .string (bstr []), .slice (some ⟨b40, 0, none⟩) 2 2], [.int .i64 7, .string (bstr []), .slice (some ⟨b44, 0, none⟩) 2 2]]) (os := [.tmp 33, .tmp 37, .tmp 41, .tmp 45]) ty_23 sz_26 zr_26 (by decide) rfl (.cons rfl (.cons rfl (.cons rfl (.cons rfl .nil)))) rfl (by intro l hl; simp only [List.mem_cons, List.not_mem_nil, or_false] at hl; rcases hl with rfl | rfl | rfl | rfl <;> rfl) (fun b46 => ?_))
    refine TL.cons rfl (T1.callV has_14 rfl rfl (tof_any w0 [] 4 wAg _ rfl) (by repeat (first | exact Inc.nil | assumption | exact Inc.refl | exact Inc.here | apply Inc.app | apply Inc.cons (by repeat (first | exact Find.here | assumption | apply Find.there | apply Find.far)) | apply Inc.skip1 | apply Inc.skip)) (fun v_ hv => ?_))
    obtain rfl := hv
    have hoth : TmR w0 ((⟨⟨b46, some 26⟩, 0, [[.int .i64 7, .string (bstr []), .slice (some ⟨b32, 0, none⟩) 2 2], [.int .i64 7, .string (bstr []), .slice (some ⟨b36, 0, none⟩) 2 2], [.int .i64 7, .string (bstr []), .slice (some ⟨b40, 0, none⟩) 2 2], [.int .i64 7, .string (bstr []), .slice (some ⟨b44, 0, none⟩) 2 2]].flatten, 4 * 3⟩ : Blk) :: ((⟨⟨b44, some 26⟩, 0, [.int .i64 1, .string (bstr wO), .slice none 0 0] ++ [.int .i64 5, .string (bstr []), .slice a4 1 c4], 2 * 3⟩ : Blk) :: (Y4 ++ ((⟨⟨b40, some 26⟩, 0, [.int .i64 1, .string (bstr wP), .slice none 0 0] ++ [.int .i64 5, .string (bstr []), .slice a3 1 c3], 2 * 3⟩ : Blk) :: (Y3 ++ ((⟨⟨b36, some 26⟩, 0, [.int .i64 1, .string (bstr wB), .slice none 0 0] ++ [.int .i64 5, .string (bstr []), .slice a2 1 c2], 2 * 3⟩ : Blk) :: (Y2 ++ ((⟨⟨b32, some 26⟩, 0, [.int .i64 1, .string (bstr wP), .slice none 0 0] ++ [.int .i64 5, .string (bstr []), .slice a1 1 c1], 2 * 3⟩ : Blk) :: Y1)))))))) wtOther [.int .i64 4, .string (bstr wAg), .slice (some ⟨b46, 0, none⟩) 4 4] := TmR.mkN (n := 4) rfl (RowR.own (List.mem_cons_self ..) rfl) (by decide) (TmsR.cons (TmR.mkN (k := 7) (nm := []) (n := 2) rfl (RowR.own (show (⟨⟨b32, some 26⟩, 0, [.int .i64 1, .string (bstr wP), .slice none 0 0] ++ [.int .i64 5, .string (bstr []), .slice a1 1 c1], 2 * 3⟩ : Blk) ∈ ((⟨⟨b46, some 26⟩, 0, [[.int .i64 7, .string (bstr []), .slice (some ⟨b32, 0, none⟩) 2 2], [.int .i64 7, .string (bstr []), .slice (some ⟨b36, 0, none⟩) 2 2], [.int .i64 7, .string (bstr []), .slice (some ⟨b40, 0, none⟩) 2 2], [.int .i64 7, .string (bstr []), .slice (some ⟨b44, 0, none⟩) 2 2]].flatten, 4 * 3⟩ : Blk) :: ((⟨⟨b44, some 26⟩, 0, [.int .i64 1, .string (bstr wO), .slice none 0 0] ++ [.int .i64 5, .string (bstr []), .slice a4 1 c4], 2 * 3⟩ : Blk) :: (Y4 ++ ((⟨⟨b40, some 26⟩, 0, [.int .i64 1, .string (bstr wP), .slice none 0 0] ++ [.int .i64 5, .string (bstr []), .slice a3 1 c3], 2 * 3⟩ : Blk) :: (Y3 ++ ((⟨⟨b36, some 26⟩, 0, [.int .i64 1, .string (bstr wB), .slice none 0 0] ++ [.int .i64 5, .string (bstr []), .slice a2 1 c2], 2 * 3⟩ : Blk) :: (Y2 ++ ((⟨⟨b32, some 26⟩, 0, [.int .i64 1, .string (bstr wP), .slice none 0 0] ++ [.int .i64 5, .string (bstr []), .slice a1 1 c1], 2 * 3⟩ : Blk) :: Y1)))))))) from by simp) rfl) (by decide) (TmsR.cons TmR.atom (TmsR.one (hp1.more (by intro B_ hB_; simp only [List.mem_append, List.mem_cons, List.not_mem_nil, or_false] at hB_ ⊢; grind))))) (TmsR.cons (TmR.mkN (k := 7) (nm := []) (n := 2) rfl (RowR.own (show (⟨⟨b36, some 26⟩, 0, [.int .i64 1, .string (bstr wB), .slice none 0 0] ++ [.int .i64 5, .string (bstr []), .slice a2 1 c2], 2 * 3⟩ : Blk) ∈ ((⟨⟨b46, some 26⟩, 0, [[.int .i64 7, .string (bstr []), .slice (some ⟨b32, 0, none⟩) 2 2], [.int .i64 7, .string (bstr []), .slice (some ⟨b36, 0, none⟩) 2 2], [.int .i64 7, .string (bstr []), .slice (some ⟨b40, 0, none⟩) 2 2], [.int .i64 7, .string (bstr []), .slice (some ⟨b44, 0, none⟩) 2 2]].flatten, 4 * 3⟩ : Blk) :: ((⟨⟨b44, some 26⟩, 0, [.int .i64 1, .string (bstr wO), .slice none 0 0] ++ [.int .i64 5, .string (bstr []), .slice a4 1 c4], 2 * 3⟩ : Blk) :: (Y4 ++ ((⟨⟨b40, some 26⟩, 0, [.int .i64 1, .string (bstr wP), .slice none 0 0] ++ [.int .i64 5, .string (bstr []), .slice a3 1 c3], 2 * 3⟩ : Blk) :: (Y3 ++ ((⟨⟨b36, some 26⟩, 0, [.int .i64 1, .string (bstr wB), .slice none 0 0] ++ [.int .i64 5, .string (bstr []), .slice a2 1 c2], 2 * 3⟩ : Blk) :: (Y2 ++ ((⟨⟨b32, some 26⟩, 0, [.int .i64 1, .string (bstr wP), .slice none 0 0] ++ [.int .i64 5, .string (bstr []), .slice a1 1 c1], 2 * 3⟩ : Blk) :: Y1)))))))) from by simp) rfl) (by decide) (TmsR.cons TmR.atom (TmsR.one (hp2.more (by intro B_ hB_; simp only [List.mem_append, List.mem_cons, List.not_mem_nil, or_false] at hB_ ⊢; grind))))) (TmsR.cons (TmR.mkN (k := 7) (nm := []) (n := 2) rfl (RowR.own (show (⟨⟨b40, some 26⟩, 0, [.int .i64 1, .string (bstr wP), .slice none 0 0] ++ [.int .i64 5, .string (bstr []), .slice a3 1 c3], 2 * 3⟩ : Blk) ∈ ((⟨⟨b46, some 26⟩, 0, [[.int .i64 7, .string (bstr []), .slice (some ⟨b32, 0, none⟩) 2 2], [.int .i64 7, .string (bstr []), .slice (some ⟨b36, 0, none⟩) 2 2], [.int .i64 7, .string (bstr []), .slice (some ⟨b40, 0, none⟩) 2 2], [.int .i64 7, .string (bstr []), .slice (some ⟨b44, 0, none⟩) 2 2]].flatten, 4 * 3⟩ : Blk) :: ((⟨⟨b44, some 26⟩, 0, [.int .i64 1, .string (bstr wO), .slice none 0 0] ++ [.int .i64 5, .string (bstr []), .slice a4 1 c4], 2 * 3⟩ : Blk) :: (Y4 ++ ((⟨⟨b40, some 26⟩, 0, [.int .i64 1, .string (bstr wP), .slice none 0 0] ++ [.int .i64 5, .string (bstr []), .slice a3 1 c3], 2 * 3⟩ : Blk) :: (Y3 ++ ((⟨⟨b36, some 26⟩, 0, [.int .i64 1, .string (bstr wB), .slice none 0 0] ++ [.int .i64 5, .string (bstr []), .slice a2 1 c2], 2 * 3⟩ : Blk) :: (Y2 ++ ((⟨⟨b32, some 26⟩, 0, [.int .i64 1, .string (bstr wP), .slice none 0 0] ++ [.int .i64 5, .string (bstr []), .slice a1 1 c1], 2 * 3⟩ : Blk) :: Y1)))))))) from by simp) rfl) (by decide) (TmsR.cons TmR.atom (TmsR.one (hp3.more (by intro B_ hB_; simp only [List.mem_append, List.mem_cons, List.not_mem_nil, or_false] at hB_ ⊢; grind))))) (TmsR.one (TmR.mkN (k := 7) (nm := []) (n := 2) rfl (RowR.own (show (⟨⟨b44, some 26⟩, 0, [.int .i64 1, .string (bstr wO), .slice none 0 0] ++ [.int .i64 5, .string (bstr []), .slice a4 1 c4], 2 * 3⟩ : Blk) ∈ ((⟨⟨b46, some 26⟩, 0, [[.int .i64 7, .string (bstr []), .slice (some ⟨b32, 0, none⟩) 2 2], [.int .i64 7, .string (bstr []), .slice (some ⟨b36, 0, none⟩) 2 2], [.int .i64 7, .string (bstr []), .slice (some ⟨b40, 0, none⟩) 2 2], [.int .i64 7, .string (bstr []), .slice (some ⟨b44, 0, none⟩) 2 2]].flatten, 4 * 3⟩ : Blk) :: ((⟨⟨b44, some 26⟩, 0, [.int .i64 1, .string (bstr wO), .slice none 0 0] ++ [.int .i64 5, .string (bstr []), .slice a4 1 c4], 2 * 3⟩ : Blk) :: (Y4 ++ ((⟨⟨b40, some 26⟩, 0, [.int .i64 1, .string (bstr wP), .slice none 0 0] ++ [.int .i64 5, .string (bstr []), .slice a3 1 c3], 2 * 3⟩ : Blk) :: (Y3 ++ ((⟨⟨b36, some 26⟩, 0, [.int .i64 1, .string (bstr wB), .slice none 0 0] ++ [.int .i64 5, .string (bstr []), .slice a2 1 c2], 2 * 3⟩ : Blk) :: (Y2 ++ ((⟨⟨b32, some 26⟩, 0, [.int .i64 1, .string (bstr wP), .slice none 0 0] ++ [.int .i64 5, .string (bstr []), .slice a1 1 c1], 2 * 3⟩ : Blk) :: Y1)))))))) from by simp) rfl) (by decide) (TmsR.cons TmR.atom (TmsR.one (hp4.more (by intro B_ hB_; simp only [List.mem_append, List.mem_cons, List.not_mem_nil, or_false] at hB_ ⊢; grind)))))))))
    refine TL.cons rfl (T1.allocN 3 zr_26 rfl (fun b7 => ?_))
    refine TL.cons rfl (T1.storeN rfl rfl sz_26 (ones rfl) (by repeat (first | exact Sub.one | apply Sub.there | apply Sub.far)) (by rfl) (by rfl) ?_)
    refine TL.nil ?_
    refine T.seq ?_
    refine T.seq ?_
    refine T.live (l := [(1, _), (2, _), (5, _), (6, _), (7, _)]) (.cons (by (conv => lhs; whnf) <;> rfl) (.cons (by (conv => lhs; whnf) <;> rfl) (.cons (by (conv => lhs; whnf) <;> rfl) (.cons (by (conv => lhs; whnf) <;> rfl) (.cons (by (conv => lhs; whnf) <;> rfl) .nil))))) (fun e_ => ?_)
    refine T.drawK (fun L_ => Find L_ ⟨b6, 0, [.int .i64 4, .string (bstr wAg), .slice ak 4 ck], 3⟩ ∧ Find L_ ⟨b7, 0, [.int .i64 4, .string (bstr wAg), .slice (some ⟨b46, 0, none⟩) 4 4], 3⟩) mixed ⟨(by repeat (first | exact Find.here | assumption | apply Find.there | apply Find.far)), (by repeat (first | exact Find.here | assumption | apply Find.there | apply Find.far))⟩ ?_
    refine TK.take 0 rfl (by decide +kernel) (by decide +kernel) (by decide +kernel) rfl (fun _ _ _ h => h) (fun L_ ⟨k1_, k2_⟩ => V1.loadN one_26 sz_26 rfl (RdN.whole (by repeat (first | exact Find.here | assumption | apply Find.there | apply Find.far))) (by rfl)) ?_
    refine TK.take 2 rfl (by decide +kernel) (by decide +kernel) (by decide +kernel) rfl (fun _ _ _ h => h) (fun L_ ⟨k1_, k2_⟩ => V1.loadN one_26 sz_26 rfl (RdN.whole (by repeat (first | exact Find.here | assumption | apply Find.there | apply Find.far))) (by rfl)) ?_
    refine TK.one 1 (by decide +kernel) rfl rfl (T1.callC has_16 rfl rfl (Normal_any w0 wtKey Qk _ hkey wt_norm.2.2.2.2.1) (by repeat (first | exact Inc.nil | assumption | exact Inc.refl | exact Inc.here | apply Inc.app | apply Inc.cons (by repeat (first | exact Find.here | assumption | apply Find.there | apply Find.far)) | apply Inc.skip1 | apply Inc.skip)) (fun v_ Y5 hY => ?_))
    obtain ⟨cy5, rfl, hn5⟩ := hY
    refine ⟨⟨(by repeat (first | exact Find.here | assumption | apply Find.there | apply Find.far)), (by repeat (first | exact Find.here | assumption | apply Find.there | apply Find.far))⟩, ?_⟩
    refine TK.one 3 (by decide +kernel) rfl rfl (T1.callC has_16 rfl rfl (Normal_any w0 wtOther ((⟨⟨b46, some 26⟩, 0, [[.int .i64 7, .string (bstr []), .slice (some ⟨b32, 0, none⟩) 2 2], [.int .i64 7, .string (bstr []), .slice (some ⟨b36, 0, none⟩) 2 2], [.int .i64 7, .string (bstr []), .slice (some ⟨b40, 0, none⟩) 2 2], [.int .i64 7, .string (bstr []), .slice (some ⟨b44, 0, none⟩) 2 2]].flatten, 4 * 3⟩ : Blk) :: ((⟨⟨b44, some 26⟩, 0, [.int .i64 1, .string (bstr wO), .slice none 0 0] ++ [.int .i64 5, .string (bstr []), .slice a4 1 c4], 2 * 3⟩ : Blk) :: (Y4 ++ ((⟨⟨b40, some 26⟩, 0, [.int .i64 1, .string (bstr wP), .slice none 0 0] ++ [.int .i64 5, .string (bstr []), .slice a3 1 c3], 2 * 3⟩ : Blk) :: (Y3 ++ ((⟨⟨b36, some 26⟩, 0, [.int .i64 1, .string (bstr wB), .slice none 0 0] ++ [.int .i64 5, .string (bstr []), .slice a2 1 c2], 2 * 3⟩ : Blk) :: (Y2 ++ ((⟨⟨b32, some 26⟩, 0, [.int .i64 1, .string (bstr wP), .slice none 0 0] ++ [.int .i64 5, .string (bstr []), .slice a1 1 c1], 2 * 3⟩ : Blk) :: Y1)))))))) _ hoth wt_norm.2.2.2.2.2.1) (by repeat (first | exact Inc.nil | assumption | exact Inc.refl | exact Inc.here | apply Inc.app | apply Inc.cons (by repeat (first | exact Find.here | assumption | apply Find.there | apply Find.far)) | apply Inc.skip1 | apply Inc.skip)) (fun v_ Y6 hY => ?_))
    obtain ⟨cy6, rfl, hn6⟩ := hY
    refine ⟨⟨(by repeat (first | exact Find.here | assumption | apply Find.there | apply Find.far)), (by repeat (first | exact Find.here | assumption | apply Find.there | apply Find.far))⟩, ?_⟩
    refine TK.one 4 (by decide +kernel) rfl rfl (T1.callV has_15 rfl rfl (Compare_any w0 (nrm wtKey) (nrm wtOther) ((Y5 ++ Qk) ++ (Y6 ++ ((⟨⟨b46, some 26⟩, 0, [[.int .i64 7, .string (bstr []), .slice (some ⟨b32, 0, none⟩) 2 2], [.int .i64 7, .string (bstr []), .slice (some ⟨b36, 0, none⟩) 2 2], [.int .i64 7, .string (bstr []), .slice (some ⟨b40, 0, none⟩) 2 2], [.int .i64 7, .string (bstr []), .slice (some ⟨b44, 0, none⟩) 2 2]].flatten, 4 * 3⟩ : Blk) :: ((⟨⟨b44, some 26⟩, 0, [.int .i64 1, .string (bstr wO), .slice none 0 0] ++ [.int .i64 5, .string (bstr []), .slice a4 1 c4], 2 * 3⟩ : Blk) :: (Y4 ++ ((⟨⟨b40, some 26⟩, 0, [.int .i64 1, .string (bstr wP), .slice none 0 0] ++ [.int .i64 5, .string (bstr []), .slice a3 1 c3], 2 * 3⟩ : Blk) :: (Y3 ++ ((⟨⟨b36, some 26⟩, 0, [.int .i64 1, .string (bstr wB), .slice none 0 0] ++ [.int .i64 5, .string (bstr []), .slice a2 1 c2], 2 * 3⟩ : Blk) :: (Y2 ++ ((⟨⟨b32, some 26⟩, 0, [.int .i64 1, .string (bstr wP), .slice none 0 0] ++ [.int .i64 5, .string (bstr []), .slice a1 1 c1], 2 * 3⟩ : Blk) :: Y1)))))))))) _ _ (hn5.more Inc.here) (hn6.more (Inc.skip Inc.refl))) (by repeat (first | exact Inc.nil | assumption | exact Inc.refl | exact Inc.here | apply Inc.app | apply Inc.cons (by repeat (first | exact Find.here | assumption | apply Find.there | apply Find.far)) | apply Inc.skip1 | apply Inc.skip)) (fun v_ hv => ?_))
    obtain rfl := hv
    refine ⟨⟨(by repeat (first | exact Find.here | assumption | apply Find.there | apply Find.far)), (by repeat (first | exact Find.here | assumption | apply Find.there | apply Find.far))⟩, ?_⟩
    refine TK.take 5 rfl (by decide +kernel) (by decide +kernel) (by decide +kernel) rfl (fun _ _ _ h => h) (fun L_ ⟨k1_, k2_⟩ => V1.neI (r := false) rfl rfl (by rw [wt_norm.1, wt_norm.2.1, cmpT_self]; decide)) ?_
    refine TD.done (by decide +kernel) ?_
    refine T.cond_f rfl ?_
    refine T.skip ?_
    refine T.cut (σ := Value × List Value × List Blk × List Blk) (l0 := [(1, _), (2, _), (5, _), (6, _)]) (fun x => [(8, x.1)]) (fun x L => L = x.2.2.1 ++ (x.2.2.2 ++ (⟨b6, 0, [.int .i64 4, .string (bstr wAg), .slice ak 4 ck], 3⟩ :: ⟨b5, 0, (wNames.map fun l => Value.string (bstr l)), 5⟩ :: ⟨b2, 0, [.bool h0, .bool h1, .bool h2, .bool h3, .bool h4], 5⟩ :: G)) ∧ SlG (some 26) x.1 x.2.1 3 x.2.2.1 ∧ TmsR w0 x.2.2.2 (wtBase [h0, h1, h2, h3, h4] 0) x.2.1 ∧ TmR w0 x.2.2.2 wtKey [.int .i64 4, .string (bstr wAg), .slice ak 4 ck]) (.cons (by (conv => lhs; whnf) <;> rfl) (.cons (by (conv => lhs; whnf) <;> rfl) (.cons (by (conv => lhs; whnf) <;> rfl) (.cons (by (conv => lhs; whnf) <;> rfl) .nil)))) ?_ ?_
    ·
      refine T.drawK (fun L_ => Find L_ ⟨b6, 0, [.int .i64 4, .string (bstr wAg), .slice ak 4 ck], 3⟩) mixed (by repeat (first | exact Find.here | assumption | apply Find.there | apply Find.far)) ?_
      refine TK.take 0 rfl (by decide +kernel) (by decide +kernel) (by decide +kernel) rfl (fun _ _ _ h => h) (fun L_ k1_ => V1.loadN one_26 sz_26 rfl (RdN.whole (by repeat (first | exact Find.here | assumption | apply Find.there | apply Find.far))) (by rfl)) ?_
      refine TK.one 1 (by decide +kernel) rfl rfl (T1.callV has_12 rfl rfl (Of_any w0 [] wW) (by repeat (first | exact Inc.nil | assumption | exact Inc.refl | exact Inc.here | apply Inc.app | apply Inc.cons (by repeat (first | exact Find.here | assumption | apply Find.there | apply Find.far)) | apply Inc.skip1 | apply Inc.skip)) (fun v_ hv => ?_))
      obtain rfl := hv
      refine ⟨(by repeat (first | exact Find.here | assumption | apply Find.there | apply Find.far)), ?_⟩
      refine TK.one 2 (by decide +kernel) rfl rfl (T1.buildTwo (cs := [.int .i64 4, .string (bstr wAg), .slice ak 4 ck]) (ds := [.int .i64 1, .string (bstr wW), .slice none 0 0]) ty_23 sz_26 zr_26 (by decide) rfl rfl (by rfl) (by rfl) (fun b56 => ?_))
      refine ⟨(by repeat (first | exact Find.here | assumption | apply Find.there | apply Find.far)), ?_⟩
      refine TK.one 3 (by decide +kernel) rfl rfl (T1.callV has_14 rfl rfl (tof_any w0 [] 3 [] _ rfl) (by repeat (first | exact Inc.nil | assumption | exact Inc.refl | exact Inc.here | apply Inc.app | apply Inc.cons (by repeat (first | exact Find.here | assumption | apply Find.there | apply Find.far)) | apply Inc.skip1 | apply Inc.skip)) (fun v_ hv => ?_))
      obtain rfl := hv
      refine ⟨(by repeat (first | exact Find.here | assumption | apply Find.there | apply Find.far)), ?_⟩
      refine TK.one 4 (by decide +kernel) rfl rfl (T1.buildOne (cs := [.int .i64 3, .string (bstr []), .slice (some ⟨b56, 0, none⟩) 2 2]) ty_23 sz_26 zr_26 (by decide) rfl (by rfl) (fun b58 => ?_))
      refine ⟨(by repeat (first | exact Find.here | assumption | apply Find.there | apply Find.far)), ?_⟩
      refine TK.take 5 rfl (by decide +kernel) (by decide +kernel) (by decide +kernel) rfl (fun _ _ _ h => h) (fun L_ k1_ => V1.assign' (by (conv => lhs; whnf) <;> rfl)) ?_
      refine TD.done (by decide +kernel) ?_
      exact ⟨(_, [.int .i64 3, .string (bstr []), .slice (some ⟨b56, 0, none⟩) 2 2], [⟨⟨b58, some 26⟩, 0, [.int .i64 3, .string (bstr []), .slice (some ⟨b56, 0, none⟩) 2 2], 3⟩], (⟨⟨b56, some 26⟩, 0, [.int .i64 4, .string (bstr wAg), .slice ak 4 ck] ++ [.int .i64 1, .string (bstr wW), .slice none 0 0], 2 * 3⟩ : Blk) :: Qk), ⟨⟨b58, some 26⟩, 0, [.int .i64 3, .string (bstr []), .slice (some ⟨b56, 0, none⟩) 2 2], 3⟩ :: ((⟨⟨b56, some 26⟩, 0, [.int .i64 4, .string (bstr wAg), .slice ak 4 ck] ++ [.int .i64 1, .string (bstr wW), .slice none 0 0], 2 * 3⟩ : Blk) :: (Qk ++ (⟨b6, 0, [.int .i64 4, .string (bstr wAg), .slice ak 4 ck], 3⟩ :: ⟨b5, 0, (wNames.map fun l => Value.string (bstr l)), 5⟩ :: ⟨b2, 0, [.bool h0, .bool h1, .bool h2, .bool h3, .bool h4], 5⟩ :: G))), _, trivial, (.cons rfl .nil), (.cons rfl (.cons rfl (.cons rfl (.cons rfl .nil)))), (by repeat (first | exact Take.nil | apply Take.one (by repeat (first | exact Pick.here | apply Pick.there | apply Pick.far)) | apply Take.seg (by repeat (first | exact PickS.last | exact PickS.one | exact PickS.here | exact PickS.nil | apply PickS.there | apply PickS.far)) | exact Take.last (by repeat (first | exact PickS.last | exact PickS.one | exact PickS.here | exact PickS.nil | apply PickS.there | apply PickS.far)))), ⟨rfl, SlG.mk rfl (Nat.le_refl _) (by decide), TmsR.one (TmR.mkN (k := 3) (nm := []) (n := 2) rfl (RowR.own (List.mem_cons_self ..) rfl) (by decide) (TmsR.cons (hkey.more (Inc.skip1 Inc.refl)) (TmsR.one TmR.atom))), hkey.more (Inc.skip1 Inc.refl)⟩⟩
    ·
      rintro ⟨s0, xs0, Ls0, Q0⟩ e_ L ⟨rfl, hsl0, hxs0, hkey0⟩
      simp only at hsl0 hxs0 hkey0
      refine T.seq ?_
      refine T.seq ?_
      refine T.region ?_
      refine TL.cons rfl (V1.t (V1.loadN (vs := (wNames.map fun l => Value.string (bstr l))) one_24 sz_24 rfl (RdN.whole (by repeat (first | exact Find.here | assumption | apply Find.there | apply Find.far))) (by rfl)) ?_)
      refine TL.cons rfl (V1.t (V1.move' (by (conv => lhs; whnf) <;> rfl)) ?_)
      refine TL.nil ?_
      refine T.block ?_
      refine T.loopL (σ := Nat × Value) (l0 := [(1, _), (2, _), (6, _), (59, _)]) (fun x => [(60, .int .i64 (x.1 : Nat)), (8, x.2)]) (fun x L => ∃ Ls Q xs, L = Ls ++ (Q ++ (⟨b6, 0, [.int .i64 4, .string (bstr wAg), .slice ak 4 ck], 3⟩ :: ⟨b5, 0, (wNames.map fun l => Value.string (bstr l)), 5⟩ :: ⟨b2, 0, [.bool h0, .bool h1, .bool h2, .bool h3, .bool h4], 5⟩ :: G)) ∧ x.1 ≤ 5 ∧ SlG (some 26) x.2 xs 3 Ls ∧ TmsR w0 Q (wtBase [h0, h1, h2, h3, h4] x.1) xs ∧ TmR w0 Q wtKey [.int .i64 4, .string (bstr wAg), .slice ak 4 ck] ∧ nparts (wtBase [h0, h1, h2, h3, h4] x.1) ≤ 20 + 3 * x.1) (fun x => 5 - x.1) (0, s0) (.cons rfl (.cons rfl .nil)) (.cons (by (conv => lhs; whnf) <;> rfl) (.cons (by (conv => lhs; whnf) <;> rfl) (.cons (by (conv => lhs; whnf) <;> rfl) (.cons (by (conv => lhs; whnf) <;> rfl) .nil)))) (by repeat (first | exact Take.nil | apply Take.one (by repeat (first | exact Pick.here | apply Pick.there | apply Pick.far)) | apply Take.seg (by repeat (first | exact PickS.last | exact PickS.one | exact PickS.here | exact PickS.nil | apply PickS.there | apply PickS.far)) | exact Take.last (by repeat (first | exact PickS.last | exact PickS.one | exact PickS.here | exact PickS.nil | apply PickS.there | apply PickS.far)))) (⟨Ls0, Q0, xs0, rfl, Nat.zero_le _, hsl0, hxs0, hkey0, by show nparts [wtSeal] ≤ 20; rw [nparts_cons, nparts_nil]; exact wt_norm.2.2.2.2.2.2.1⟩) ?_
      rintro ⟨i, s⟩ e_ L ⟨Ls, Q, xs, rfl, hi, hsl, hxs, hkq, hnp⟩
      simp only at hi hsl hxs hnp
      have hxl := hxs.len
      have hln := nparts_len (wtBase [h0, h1, h2, h3, h4] i)
      refine T.seq ?_
      refine T.region ?_
      refine TL.cons rfl (T1.ltI_split rfl rfl (fun h8 => ?_) (fun h8 => ?_))
      ·
        obtain ⟨n, hn⟩ : ∃ n, wNames[i]? = some n := ⟨_, List.getElem?_eq_getElem (by show i < 5; omega)⟩
        obtain ⟨b, hb⟩ : ∃ b, [h0, h1, h2, h3, h4][i]? = some b := ⟨_, List.getElem?_eq_getElem (by show i < 5; omega)⟩
        have hbv : ([.bool h0, .bool h1, .bool h2, .bool h3, .bool h4] : List Value)[i]? = some (.bool b) := by show ([h0, h1, h2, h3, h4].map Value.bool)[i]? = _; rw [List.getElem?_map, hb]; rfl
        refine TL.nil ?_
        refine T.seq ?_
        refine T.cond_t rfl ?_
        refine T.skip ?_
        refine T.seq ?_
        refine T.block ?_
        refine T.seq ?_
        refine T.region ?_
        refine TL.cons rfl (V1.t (V1.move' (by (conv => lhs; whnf) <;> rfl)) ?_)
        refine TL.cons rfl (V1.t (V1.indexA (i := i) ty_24 sz_9 rfl rfl (by omega) (by omega) (fun w => run_part1 one_9 (show (wNames.map fun l => Value.string (bstr l)).toArray[i * 1]? = some (.string (bstr n)) from by rw [Nat.mul_one, List.getElem?_toArray, List.getElem?_map, hn]; rfl) w)) ?_)
        refine TL.cons rfl (V1.t (V1.assign' (by (conv => lhs; whnf) <;> rfl)) ?_)
        refine TL.cons rfl (V1.t (V1.assign' (by (conv => lhs; whnf) <;> rfl)) ?_)
        refine TL.nil ?_
        refine T.seq ?_
        refine T.region ?_
        refine TL.cons rfl (V1.t (V1.move' (by (conv => lhs; whnf) <;> rfl)) ?_)
        refine TL.cons rfl (V1.t (V1.move' (by (conv => lhs; whnf) <;> rfl)) ?_)
        refine TL.cons rfl (T1.callC has_13 rfl rfl (tpub_any w0 [] n) (by repeat (first | exact Inc.nil | assumption | exact Inc.refl | exact Inc.here | apply Inc.app | apply Inc.cons (by repeat (first | exact Find.here | assumption | apply Find.there | apply Find.far)) | apply Inc.skip1 | apply Inc.skip)) (fun v_ Yp hY => ?_))
        obtain ⟨ap, cp, rfl, hpn⟩ := hY
        refine TL.cons rfl (T1.buildOne (cs := [.int .i64 5, .string (bstr []), .slice ap 1 cp]) ty_23 sz_26 zr_26 (by decide) rfl (by rfl) (fun b67 => ?_))
        refine TL.cons rfl (T1.appendG ty_23 kd_23 sz_26 by_26 zr_26 rfl (by decide) (by decide) rfl rfl (.inr rfl) hsl (.sl (vs := [.int .i64 5, .string (bstr []), .slice ap 1 cp]) (RdN.at0 (by repeat (first | exact Find.here | assumption | apply Find.there | apply Find.far))) (by rfl)) (ones rfl) 200 (by show _ + 3 ≤ _; omega) (by decide) (by repeat (first | exact PickS.last | exact PickS.one | exact PickS.here | exact PickS.nil | apply PickS.there | apply PickS.far)) (fun s1 Ls1 hsl1 => ?_))
        have hl1 : xs.length ≤ 105 := by omega
        refine TL.cons rfl (V1.t (V1.assign' (by (conv => lhs; whnf) <;> rfl)) ?_)
        refine TL.nil ?_
        refine T.seq ?_
        refine T.region ?_
        refine TL.cons rfl (V1.t (V1.move' (by (conv => lhs; whnf) <;> rfl)) ?_)
        refine TL.cons rfl (V1.t (V1.indexAddrA ty_22 sz_4 rfl rfl (by omega) (by omega)) ?_)
        refine TL.cons rfl (V1.t (V1.load1 (v := .bool b) one_4 rfl (.own (o := 0 + i * 1) (off := 0) (size := 5) (cells := [.bool h0, .bool h1, .bool h2, .bool h3, .bool h4]) (by repeat (first | exact Find.here | assumption | apply Find.there | apply Find.far)) (by show (bif Nat.ble 0 (0 + i * 1) then ([.bool h0, .bool h1, .bool h2, .bool h3, .bool h4] : List Value)[0 + i * 1 - 0]? else none) = _; rw [Nat.ble_eq_true_of_le (Nat.zero_le _), cond_true, show 0 + i * 1 - 0 = i by omega]; exact hbv))) ?_)
        rcases Bool.eq_false_or_eq_true b with hbb | hbb <;> subst hbb
        ·
          refine TL.nil ?_
          refine T.cond_t rfl ?_
          refine T.region ?_
          refine TL.cons rfl (V1.t (V1.move' (by (conv => lhs; whnf) <;> rfl)) ?_)
          refine TL.cons rfl (V1.t (V1.move' (by (conv => lhs; whnf) <;> rfl)) ?_)
          refine TL.cons rfl (T1.callV has_12 rfl rfl (Of_any w0 [] n) (by repeat (first | exact Inc.nil | assumption | exact Inc.refl | exact Inc.here | apply Inc.app | apply Inc.cons (by repeat (first | exact Find.here | assumption | apply Find.there | apply Find.far)) | apply Inc.skip1 | apply Inc.skip)) (fun v_ hv => ?_))
          obtain rfl := hv
          refine TL.cons rfl (T1.buildOne (cs := [.int .i64 1, .string (bstr n), .slice none 0 0]) ty_23 sz_26 zr_26 (by decide) rfl (by rfl) (fun b75 => ?_))
          refine TL.cons rfl (T1.appendG ty_23 kd_23 sz_26 by_26 zr_26 rfl (by decide) (by decide) rfl rfl (.inr rfl) hsl1 (.sl (vs := [.int .i64 1, .string (bstr n), .slice none 0 0]) (RdN.at0 (by repeat (first | exact Find.here | assumption | apply Find.there | apply Find.far))) (by rfl)) (ones rfl) 200 (by show _ + 3 ≤ _; rw [List.length_append]; show _ + 3 + 3 ≤ _; omega) (by decide) (by repeat (first | exact PickS.last | exact PickS.one | exact PickS.here | exact PickS.nil | apply PickS.there | apply PickS.far)) (fun s2 Ls2 hsl2 => ?_))
          refine TL.cons rfl (V1.t (V1.assign' (by (conv => lhs; whnf) <;> rfl)) ?_)
          refine TL.nil ?_
          refine T.live (l := [(1, _), (2, _), (6, _), (8, _), (59, _), (60, _)]) (.cons (by (conv => lhs; whnf) <;> rfl) (.cons (by (conv => lhs; whnf) <;> rfl) (.cons (by (conv => lhs; whnf) <;> rfl) (.cons (by (conv => lhs; whnf) <;> rfl) (.cons (by (conv => lhs; whnf) <;> rfl) (.cons (by (conv => lhs; whnf) <;> rfl) .nil)))))) (fun e_ => ?_)
          refine T.region ?_
          refine TL.cons rfl (V1.t (V1.add (c := ((i + 1 : Nat) : Int)) rfl rfl (by rw [wrap_i64 _ (by omega) (by omega)]; omega)) ?_)
          refine TL.cons rfl (V1.t (V1.move' (by (conv => lhs; whnf) <;> rfl)) ?_)
          refine TL.nil ?_
          exact ⟨(i + 1, s2), Ls2 ++ (Yp ++ (Q ++ (⟨b6, 0, [.int .i64 4, .string (bstr wAg), .slice ak 4 ck], 3⟩ :: ⟨b5, 0, (wNames.map fun l => Value.string (bstr l)), 5⟩ :: ⟨b2, 0, [.bool h0, .bool h1, .bool h2, .bool h3, .bool h4], 5⟩ :: G))), _, (by simp only; omega), (.cons rfl (.cons rfl .nil)), (.cons rfl (.cons rfl (.cons rfl (.cons rfl .nil)))), (by repeat (first | exact Take.nil | apply Take.one (by repeat (first | exact Pick.here | apply Pick.there | apply Pick.far)) | apply Take.seg (by repeat (first | exact PickS.last | exact PickS.one | exact PickS.here | exact PickS.nil | apply PickS.there | apply PickS.far)) | exact Take.last (by repeat (first | exact PickS.last | exact PickS.one | exact PickS.here | exact PickS.nil | apply PickS.there | apply PickS.far)))), ⟨Ls2, Yp ++ Q, _, by rw [List.append_assoc], by simp only; omega, hsl2, by rw [wtBase_next hn hb, show wtOne n true = [pub (at_ n)] ++ [at_ n] from rfl, ← List.append_assoc]; exact ((hxs.more (Inc.skip Inc.refl)).app (TmsR.one (hpn.more (by repeat (first | exact Inc.nil | assumption | exact Inc.refl | exact Inc.here | apply Inc.app | apply Inc.cons (by repeat (first | exact Find.here | assumption | apply Find.there | apply Find.far)) | apply Inc.skip1 | apply Inc.skip))))).app (TmsR.one TmR.atom), hkq.more (Inc.skip Inc.refl), wt_step hn hb hnp⟩⟩
        ·
          refine TL.nil ?_
          refine T.cond_f rfl ?_
          refine T.skip ?_
          refine T.region ?_
          refine TL.cons rfl (V1.t (V1.add (c := ((i + 1 : Nat) : Int)) rfl rfl (by rw [wrap_i64 _ (by omega) (by omega)]; omega)) ?_)
          refine TL.cons rfl (V1.t (V1.move' (by (conv => lhs; whnf) <;> rfl)) ?_)
          refine TL.nil ?_
          exact ⟨(i + 1, s1), Ls1 ++ (Yp ++ (Q ++ (⟨b6, 0, [.int .i64 4, .string (bstr wAg), .slice ak 4 ck], 3⟩ :: ⟨b5, 0, (wNames.map fun l => Value.string (bstr l)), 5⟩ :: ⟨b2, 0, [.bool h0, .bool h1, .bool h2, .bool h3, .bool h4], 5⟩ :: G))), _, (by simp only; omega), (.cons rfl (.cons rfl .nil)), (.cons rfl (.cons rfl (.cons rfl (.cons rfl .nil)))), (by repeat (first | exact Take.nil | apply Take.one (by repeat (first | exact Pick.here | apply Pick.there | apply Pick.far)) | apply Take.seg (by repeat (first | exact PickS.last | exact PickS.one | exact PickS.here | exact PickS.nil | apply PickS.there | apply PickS.far)) | exact Take.last (by repeat (first | exact PickS.last | exact PickS.one | exact PickS.here | exact PickS.nil | apply PickS.there | apply PickS.far)))), ⟨Ls1, Yp ++ Q, _, by rw [List.append_assoc], by simp only; omega, hsl1, by rw [wtBase_next hn hb, show wtOne n false = [pub (at_ n)] from rfl]; exact (hxs.more (Inc.skip Inc.refl)).app (TmsR.one (hpn.more (by repeat (first | exact Inc.nil | assumption | exact Inc.refl | exact Inc.here | apply Inc.app | apply Inc.cons (by repeat (first | exact Find.here | assumption | apply Find.there | apply Find.far)) | apply Inc.skip1 | apply Inc.skip)))), hkq.more (Inc.skip Inc.refl), wt_step hn hb hnp⟩⟩
      ·
        obtain rfl : i = 5 := by omega
        obtain ⟨as5, cs5, rfl, hrs5⟩ := hsl.tm hxs
        refine TL.nil ?_
        refine T.seq ?_
        refine T.cond_f rfl ?_
        refine T.exit ?_
        refine T.seq ?_
        refine T.seq ?_
        refine T.region ?_
        refine TL.cons rfl (V1.t (V1.move' (by (conv => lhs; whnf) <;> rfl)) ?_)
        refine TL.cons rfl (V1.t (V1.lenSl ty_23 rfl) ?_)
        refine TL.cons rfl (V1.t (V1.move' (by (conv => lhs; whnf) <;> rfl)) ?_)
        refine TL.nil ?_
        refine T.block ?_
        refine T.loopL (σ := Nat × Option Addr × Nat) (l0 := [(1, _), (2, _), (6, _), (78, _), (79, _)]) (fun x => [(80, .int .i64 (x.1 : Nat)), (8, .slice x.2.1 ((wtBase [h0, h1, h2, h3, h4] 5).length + x.1) x.2.2)]) (fun x L => ∃ Ls xs, L = Ls ++ (Q ++ (⟨b6, 0, [.int .i64 4, .string (bstr wAg), .slice ak 4 ck], 3⟩ :: ⟨b5, 0, (wNames.map fun l => Value.string (bstr l)), 5⟩ :: ⟨b2, 0, [.bool h0, .bool h1, .bool h2, .bool h3, .bool h4], 5⟩ :: G)) ∧ x.1 ≤ ts.length ∧ SlG (some 26) (.slice x.2.1 ((wtBase [h0, h1, h2, h3, h4] 5).length + x.1) x.2.2) xs 3 Ls ∧ RowR w0 (Ls ++ Q) 3 (.slice x.2.1 ((wtBase [h0, h1, h2, h3, h4] 5).length + x.1) x.2.2) ((wtBase [h0, h1, h2, h3, h4] 5).length + x.1) xs ∧ TmsR w0 Q ((wtBase [h0, h1, h2, h3, h4] 5) ++ ts.take x.1) xs ∧ (∀ t ∈ ts.take x.1, chk t = 0 ∧ Free t) ∧ nparts ((wtBase [h0, h1, h2, h3, h4] 5) ++ ts.take x.1) ≤ 35 + 30 * x.1 ∧ x.1 ≤ 30) (fun x => ts.length - x.1) (0, as5, cs5) (.cons rfl (.cons rfl .nil)) (.cons (by (conv => lhs; whnf) <;> rfl) (.cons (by (conv => lhs; whnf) <;> rfl) (.cons (by (conv => lhs; whnf) <;> rfl) (.cons (by (conv => lhs; whnf) <;> rfl) (.cons (by (conv => lhs; whnf) <;> rfl) .nil))))) (by repeat (first | exact Take.nil | apply Take.one (by repeat (first | exact Pick.here | apply Pick.there | apply Pick.far)) | apply Take.seg (by repeat (first | exact PickS.last | exact PickS.one | exact PickS.here | exact PickS.nil | apply PickS.there | apply PickS.far)) | exact Take.last (by repeat (first | exact PickS.last | exact PickS.one | exact PickS.here | exact PickS.nil | apply PickS.there | apply PickS.far)))) (⟨Ls, xs, rfl, Nat.zero_le _, hsl, hrs5, by simpa using hxs, by simp, by simpa using hnp, Nat.zero_le _⟩) ?_
        rintro ⟨j, as_, cs_⟩ e_ L ⟨Ls, xs, rfl, hj, hsl, hrs, hxs, hcf, hnp, hj30⟩
        simp only at hj hsl hrs hxs hcf hnp hj30
        have hxl := hxs.len
        rw [List.length_append, List.length_take, Nat.min_eq_left hj] at hxl
        have h1l : 1 ≤ (wtBase [h0, h1, h2, h3, h4] 5).length := by unfold wtBase; simp
        have hwl : (wtBase [h0, h1, h2, h3, h4] 5).length ≤ 35 := by have := nparts_len ((wtBase [h0, h1, h2, h3, h4] 5) ++ ts.take j); have := nparts_len (wtBase [h0, h1, h2, h3, h4] 5); rw [nparts_app] at hnp; omega
        refine T.seq ?_
        refine T.region ?_
        refine TL.cons rfl (T1.ltI_split rfl rfl (fun h15 => ?_) (fun h15 => ?_))
        ·
          obtain ⟨x, hx0⟩ : ∃ x, ts[j]? = some x := ⟨_, List.getElem?_eq_getElem (by omega)⟩
          obtain ⟨bx, ox, cs_, rfl, hx, hrdx⟩ := hr.term ht hx0 P
          obtain ⟨kx, nx, asx⟩ := x
          obtain ⟨ax, cx, vsx, rfl, hrx, hlx, htx⟩ := hx.inv
          try simp only at *
          refine TL.nil ?_
          refine T.seq ?_
          refine T.cond_t rfl ?_
          refine T.skip ?_
          refine T.seq ?_
          refine T.block ?_
          refine T.seq ?_
          refine T.region ?_
          refine TL.cons rfl (V1.t (V1.indexAddrS ty_23 sz_26 rfl rfl (by omega) (by omega)) ?_)
          refine TL.cons rfl (V1.t (V1.loadN (vs := [.int .i64 kx, .string (bstr nx), .slice ax asx.length cx]) one_26 sz_26 rfl (hrdx _ rfl rfl _ Inc.nil) rfl) ?_)
          refine TL.cons rfl (T1.allocN 3 zr_26 rfl (fun b12 => ?_))
          refine TL.cons rfl (T1.storeN rfl rfl sz_26 (ones rfl) (by repeat (first | exact Sub.one | apply Sub.there | apply Sub.far)) (by rfl) (by rfl) ?_)
          refine TL.nil ?_
          refine T.seq ?_
          refine T.seq ?_
          refine T.region ?_
          refine TL.cons rfl (V1.t (V1.loadN one_26 sz_26 rfl (RdN.whole (by repeat (first | exact Find.here | assumption | apply Find.there | apply Find.far))) (by rfl)) ?_)
          refine TL.cons rfl (T1.callV has_17 rfl rfl (Check_any w0 [] (.mk kx nx asx) _ hx) (by repeat (first | exact Inc.nil | assumption | exact Inc.refl | exact Inc.here | apply Inc.app | apply Inc.cons (by repeat (first | exact Find.here | assumption | apply Find.there | apply Find.far)) | apply Inc.skip1 | apply Inc.skip)) (fun v_ hv => ?_))
          obtain rfl := hv
          refine TL.cons rfl (T1.neI_split rfl rfl (fun h17 => ?_) (fun h17 => ?_))
          ·
            refine TL.cons rfl (V1.t (V1.move' (by (conv => lhs; whnf) <;> rfl)) ?_)
            refine TL.no rfl ?_
            refine TL.no rfl ?_
            refine TL.no rfl ?_
            refine TL.no rfl ?_
            refine TL.cons rfl (V1.t (V1.pick rfl (by (conv => lhs; whnf) <;> rfl)) ?_)
            refine TL.cons rfl (V1.t (V1.move' (by (conv => lhs; whnf) <;> rfl)) ?_)
            refine TL.no rfl ?_
            refine TL.no rfl ?_
            refine TL.no rfl ?_
            refine TL.cons rfl (V1.t (V1.pick rfl (by (conv => lhs; whnf) <;> rfl)) ?_)
            refine TL.nil ?_
            refine T.cond_t rfl ?_
            refine T.seq ?_
            refine T.live (l := []) .nil (fun e_ => ?_)
            refine T.region ?_
            refine TL.cons rfl (V1.t (V1.assign' (by (conv => lhs; whnf) <;> rfl)) ?_)
            refine TL.nil ?_
            refine T.ret ?_
            exact ⟨_, G, _, .cons (.tmp (by (conv => lhs; whnf) <;> rfl)) .nil, (by repeat (first | exact Take.nil | apply Take.one (by repeat (first | exact Pick.here | apply Pick.there | apply Pick.far)) | apply Take.seg (by repeat (first | exact PickS.last | exact PickS.one | exact PickS.here | exact PickS.nil | apply PickS.there | apply PickS.far)) | exact Take.last (by repeat (first | exact PickS.last | exact PickS.one | exact PickS.here | exact PickS.nil | apply PickS.there | apply PickS.far)))), rfl, rfl⟩
          ·
            refine TL.cons rfl (V1.t (V1.move' (by (conv => lhs; whnf) <;> rfl)) ?_)
            refine TL.cons rfl (V1.t (V1.loadN one_26 sz_26 rfl (RdN.whole (by repeat (first | exact Find.here | assumption | apply Find.there | apply Find.far))) (by rfl)) ?_)
            refine TL.cons rfl (T1.callC has_18 rfl rfl (Parts_any w0 [] (.mk kx nx asx) _ hx (by have := (chk_iff.1 h17).1; omega)) (by repeat (first | exact Inc.nil | assumption | exact Inc.refl | exact Inc.here | apply Inc.app | apply Inc.cons (by repeat (first | exact Find.here | assumption | apply Find.there | apply Find.far)) | apply Inc.skip1 | apply Inc.skip)) (fun v_ Yq hY => ?_))
            obtain ⟨uq, wq, hsq, hmq, hslq, htq⟩ := hY
            obtain ⟨aq, cq, rfl, hrq⟩ := SlG.tm hslq htq
            have hlq := npart_of hsq.nodup hmq
            refine TL.cons rfl (V1.t (V1.lenSl ty_23 rfl) ?_)
            refine TL.cons rfl (T1.gtI_split rfl rfl (fun h177 => ?_) (fun h177 => ?_))
            ·
              refine TL.cons rfl (V1.t (V1.pick rfl (by (conv => lhs; whnf) <;> rfl)) ?_)
              refine TL.cons rfl (V1.t (V1.move' (by (conv => lhs; whnf) <;> rfl)) ?_)
              refine TL.no rfl ?_
              refine TL.no rfl ?_
              refine TL.no rfl ?_
              refine TL.cons rfl (V1.t (V1.pick rfl (by (conv => lhs; whnf) <;> rfl)) ?_)
              refine TL.nil ?_
              refine T.cond_t rfl ?_
              refine T.seq ?_
              refine T.live (l := []) .nil (fun e_ => ?_)
              refine T.region ?_
              refine TL.cons rfl (V1.t (V1.assign' (by (conv => lhs; whnf) <;> rfl)) ?_)
              refine TL.nil ?_
              refine T.ret ?_
              exact ⟨_, G, _, .cons (.tmp (by (conv => lhs; whnf) <;> rfl)) .nil, (by repeat (first | exact Take.nil | apply Take.one (by repeat (first | exact Pick.here | apply Pick.there | apply Pick.far)) | apply Take.seg (by repeat (first | exact PickS.last | exact PickS.one | exact PickS.here | exact PickS.nil | apply PickS.there | apply PickS.far)) | exact Take.last (by repeat (first | exact PickS.last | exact PickS.one | exact PickS.here | exact PickS.nil | apply PickS.there | apply PickS.far)))), rfl, rfl⟩
            ·
              refine TL.cons rfl (V1.t (V1.pick rfl (by (conv => lhs; whnf) <;> rfl)) ?_)
              refine TL.cons rfl (V1.t (V1.move' (by (conv => lhs; whnf) <;> rfl)) ?_)
              refine TL.cons rfl (V1.t (V1.move' (by (conv => lhs; whnf) <;> rfl)) ?_)
              refine TL.cons rfl (V1.t (V1.lenSl ty_23 rfl) ?_)
              refine TL.cons rfl (T1.gtI_split rfl rfl (fun h1712 => ?_) (fun h1712 => ?_))
              ·
                refine TL.cons rfl (V1.t (V1.pick rfl (by (conv => lhs; whnf) <;> rfl)) ?_)
                refine TL.nil ?_
                refine T.cond_t rfl ?_
                refine T.seq ?_
                refine T.live (l := []) .nil (fun e_ => ?_)
                refine T.region ?_
                refine TL.cons rfl (V1.t (V1.assign' (by (conv => lhs; whnf) <;> rfl)) ?_)
                refine TL.nil ?_
                refine T.ret ?_
                exact ⟨_, G, _, .cons (.tmp (by (conv => lhs; whnf) <;> rfl)) .nil, (by repeat (first | exact Take.nil | apply Take.one (by repeat (first | exact Pick.here | apply Pick.there | apply Pick.far)) | apply Take.seg (by repeat (first | exact PickS.last | exact PickS.one | exact PickS.here | exact PickS.nil | apply PickS.there | apply PickS.far)) | exact Take.last (by repeat (first | exact PickS.last | exact PickS.one | exact PickS.here | exact PickS.nil | apply PickS.there | apply PickS.far)))), rfl, rfl⟩
              ·
                refine TL.cons rfl (V1.t (V1.pick rfl (by (conv => lhs; whnf) <;> rfl)) ?_)
                refine TL.nil ?_
                refine T.cond_f rfl ?_
                refine T.skip ?_
                refine T.seq ?_
                refine T.seq ?_
                refine T.live (l := [(1, _), (2, _), (6, _), (8, _), (12, _), (78, _), (79, _), (80, _)]) (.cons (by (conv => lhs; whnf) <;> rfl) (.cons (by (conv => lhs; whnf) <;> rfl) (.cons (by (conv => lhs; whnf) <;> rfl) (.cons (by (conv => lhs; whnf) <;> rfl) (.cons (by (conv => lhs; whnf) <;> rfl) (.cons (by (conv => lhs; whnf) <;> rfl) (.cons (by (conv => lhs; whnf) <;> rfl) (.cons (by (conv => lhs; whnf) <;> rfl) .nil)))))))) (fun e_ => ?_)
                refine T.region ?_
                refine TL.cons rfl (V1.t (V1.loadN one_26 sz_26 rfl (RdN.whole (by repeat (first | exact Find.here | assumption | apply Find.there | apply Find.far))) (by rfl)) ?_)
                refine TL.cons rfl (T1.callC has_18 rfl rfl (Parts_any w0 [] (.mk kx nx asx) _ hx (by have := (chk_iff.1 h17).1; omega)) (by repeat (first | exact Inc.nil | assumption | exact Inc.refl | exact Inc.here | apply Inc.app | apply Inc.cons (by repeat (first | exact Find.here | assumption | apply Find.there | apply Find.far)) | apply Inc.skip1 | apply Inc.skip)) (fun v_ Yp hY => ?_))
                obtain ⟨up, wp, hsp, hmp, hslp, htp⟩ := hY
                obtain ⟨ap, cp, rfl, hrp⟩ := SlG.tm hslp htp
                have hlp := npart_of hsp.nodup hmp
                refine TL.cons rfl (V1.t (V1.lenSl ty_23 rfl) ?_)
                refine TL.cons rfl (V1.t (V1.move' (by (conv => lhs; whnf) <;> rfl)) ?_)
                refine TL.nil ?_
                refine T.block ?_
                refine T.loopL (σ := Nat) (l0 := [(1, _), (2, _), (6, _), (8, _), (12, _), (78, _), (79, _), (80, _), (99, _), (100, _)]) (fun x => [(101, .int .i64 (x : Nat))]) (fun q L => L = Yp ++ (⟨b12, 0, [.int .i64 kx, .string (bstr nx), .slice ax asx.length cx], 3⟩ :: (Ls ++ (Q ++ (⟨b6, 0, [.int .i64 4, .string (bstr wAg), .slice ak 4 ck], 3⟩ :: ⟨b5, 0, (wNames.map fun l => Value.string (bstr l)), 5⟩ :: ⟨b2, 0, [.bool h0, .bool h1, .bool h2, .bool h3, .bool h4], 5⟩ :: G)))) ∧ q ≤ up.length ∧ ∀ y ∈ up.take q, ¬ Small y) (fun q => up.length - q) 0 (.cons rfl .nil) (.cons (by (conv => lhs; whnf) <;> rfl) (.cons (by (conv => lhs; whnf) <;> rfl) (.cons (by (conv => lhs; whnf) <;> rfl) (.cons (by (conv => lhs; whnf) <;> rfl) (.cons (by (conv => lhs; whnf) <;> rfl) (.cons (by (conv => lhs; whnf) <;> rfl) (.cons (by (conv => lhs; whnf) <;> rfl) (.cons (by (conv => lhs; whnf) <;> rfl) (.cons (by (conv => lhs; whnf) <;> rfl) (.cons (by (conv => lhs; whnf) <;> rfl) .nil)))))))))) (by repeat (first | exact Take.nil | apply Take.one (by repeat (first | exact Pick.here | apply Pick.there | apply Pick.far)) | apply Take.seg (by repeat (first | exact PickS.last | exact PickS.one | exact PickS.here | exact PickS.nil | apply PickS.there | apply PickS.far)) | exact Take.last (by repeat (first | exact PickS.last | exact PickS.one | exact PickS.here | exact PickS.nil | apply PickS.there | apply PickS.far)))) (⟨rfl, Nat.zero_le _, by simp⟩) ?_
                rintro q e_ L ⟨rfl, hq, hqs⟩
                refine T.seq ?_
                refine T.region ?_
                refine TL.cons rfl (T1.ltI_split rfl rfl (fun h20 => ?_) (fun h20 => ?_))
                ·
                  obtain ⟨y, hy0⟩ : ∃ y, up[q]? = some y := ⟨_, List.getElem?_eq_getElem (by omega)⟩
                  obtain ⟨by_, oy, cs_, rfl, hy, hrdy⟩ := hrp.term htp hy0 P
                  obtain ⟨ky, ny, asy⟩ := y
                  obtain ⟨ay, cy, vsy, rfl, hry, hly, hty⟩ := hy.inv
                  try simp only at *
                  refine TL.nil ?_
                  refine T.seq ?_
                  refine T.cond_t rfl ?_
                  refine T.skip ?_
                  refine T.seq ?_
                  refine T.block ?_
                  refine T.seq ?_
                  refine T.region ?_
                  refine TL.cons rfl (V1.t (V1.indexAddrS ty_23 sz_26 rfl rfl (by omega) (by omega)) ?_)
                  refine TL.cons rfl (V1.t (V1.loadN (vs := [.int .i64 ky, .string (bstr ny), .slice ay asy.length cy]) one_26 sz_26 rfl (hrdy _ rfl rfl _ (by repeat (first | exact Inc.nil | assumption | exact Inc.refl | exact Inc.here | apply Inc.app | apply Inc.cons (by repeat (first | exact Find.here | assumption | apply Find.there | apply Find.far)) | apply Inc.skip1 | apply Inc.skip))) rfl) ?_)
                  refine TL.cons rfl (T1.allocN 3 zr_26 rfl (fun b14 => ?_))
                  refine TL.cons rfl (T1.storeN rfl rfl sz_26 (ones rfl) (by repeat (first | exact Sub.one | apply Sub.there | apply Sub.far)) (by rfl) (by rfl) ?_)
                  refine TL.nil ?_
                  refine T.seq ?_
                  refine T.region ?_
                  refine TL.cons rfl (V1.t (V1.fieldAddr fl_26_0 rfl) ?_)
                  refine TL.cons rfl (V1.t (V1.load1 one_3 rfl (.own (by repeat (first | exact Find.here | assumption | apply Find.there | apply Find.far)) (by rfl))) ?_)
                  refine TL.cons rfl (T1.eqI_split rfl rfl (fun h22 => ?_) (fun h22 => ?_))
                  ·
                    refine TL.cons rfl (V1.t (V1.move' (by (conv => lhs; whnf) <;> rfl)) ?_)
                    refine TL.cons rfl (V1.t (V1.fieldAddr fl_26_1 rfl) ?_)
                    refine TL.cons rfl (V1.t (V1.load1 one_9 rfl (.own (by repeat (first | exact Find.here | assumption | apply Find.there | apply Find.far)) (by rfl))) ?_)
                    refine TL.cons rfl (V1.t (V1.lenS ty_9 rfl) ?_)
                    refine TL.cons rfl (T1.ltI_split rfl rfl (fun h227 => ?_) (fun h227 => ?_))
                    ·
                      refine TL.cons rfl (V1.t (V1.pick rfl (by (conv => lhs; whnf) <;> rfl)) ?_)
                      refine TL.nil ?_
                      refine T.cond_t rfl ?_
                      refine T.seq ?_
                      refine T.region ?_
                      refine TL.cons rfl (V1.t (V1.assign' (by (conv => lhs; whnf) <;> rfl)) ?_)
                      refine TL.nil ?_
                      refine T.ret ?_
                      exact ⟨_, G, _, .cons (.tmp (by (conv => lhs; whnf) <;> rfl)) .nil, (by repeat (first | exact Take.nil | apply Take.one (by repeat (first | exact Pick.here | apply Pick.there | apply Pick.far)) | apply Take.seg (by repeat (first | exact PickS.last | exact PickS.one | exact PickS.here | exact PickS.nil | apply PickS.there | apply PickS.far)) | exact Take.last (by repeat (first | exact PickS.last | exact PickS.one | exact PickS.here | exact PickS.nil | apply PickS.there | apply PickS.far)))), rfl, rfl⟩
                    ·
                      refine TL.cons rfl (V1.t (V1.pick rfl (by (conv => lhs; whnf) <;> rfl)) ?_)
                      refine TL.nil ?_
                      refine T.cond_f rfl ?_
                      refine T.skip ?_
                      refine T.region ?_
                      refine TL.cons rfl (V1.t (V1.add (c := ((q + 1 : Nat) : Int)) rfl rfl (by rw [wrap_i64 _ (by omega) (by omega)]; omega)) ?_)
                      refine TL.cons rfl (V1.t (V1.move' (by (conv => lhs; whnf) <;> rfl)) ?_)
                      refine TL.nil ?_
                      exact ⟨q + 1, Yp ++ (⟨b12, 0, [.int .i64 kx, .string (bstr nx), .slice ax asx.length cx], 3⟩ :: (Ls ++ (Q ++ (⟨b6, 0, [.int .i64 4, .string (bstr wAg), .slice ak 4 ck], 3⟩ :: ⟨b5, 0, (wNames.map fun l => Value.string (bstr l)), 5⟩ :: ⟨b2, 0, [.bool h0, .bool h1, .bool h2, .bool h3, .bool h4], 5⟩ :: G)))), _, (by simp only; omega), (.cons rfl .nil), (.cons rfl (.cons rfl (.cons rfl (.cons rfl (.cons rfl (.cons rfl (.cons rfl (.cons rfl (.cons rfl (.cons rfl .nil)))))))))), (by repeat (first | exact Take.nil | apply Take.one (by repeat (first | exact Pick.here | apply Pick.there | apply Pick.far)) | apply Take.seg (by repeat (first | exact PickS.last | exact PickS.one | exact PickS.here | exact PickS.nil | apply PickS.there | apply PickS.far)) | exact Take.last (by repeat (first | exact PickS.last | exact PickS.one | exact PickS.here | exact PickS.nil | apply PickS.there | apply PickS.far)))), ⟨rfl, by omega, take_all (p := fun y => ¬ Small y) hy0 hqs (by rintro ⟨q1, q2⟩; simp only [Tm.kind, Tm.name] at q1 q2; first | exact h22 q1 | (rw [bstr_size] at h227; omega))⟩⟩
                  ·
                    refine TL.cons rfl (V1.t (V1.move' (by (conv => lhs; whnf) <;> rfl)) ?_)
                    refine TL.no rfl ?_
                    refine TL.no rfl ?_
                    refine TL.no rfl ?_
                    refine TL.no rfl ?_
                    refine TL.cons rfl (V1.t (V1.pick rfl (by (conv => lhs; whnf) <;> rfl)) ?_)
                    refine TL.nil ?_
                    refine T.cond_f rfl ?_
                    refine T.skip ?_
                    refine T.region ?_
                    refine TL.cons rfl (V1.t (V1.add (c := ((q + 1 : Nat) : Int)) rfl rfl (by rw [wrap_i64 _ (by omega) (by omega)]; omega)) ?_)
                    refine TL.cons rfl (V1.t (V1.move' (by (conv => lhs; whnf) <;> rfl)) ?_)
                    refine TL.nil ?_
                    exact ⟨q + 1, Yp ++ (⟨b12, 0, [.int .i64 kx, .string (bstr nx), .slice ax asx.length cx], 3⟩ :: (Ls ++ (Q ++ (⟨b6, 0, [.int .i64 4, .string (bstr wAg), .slice ak 4 ck], 3⟩ :: ⟨b5, 0, (wNames.map fun l => Value.string (bstr l)), 5⟩ :: ⟨b2, 0, [.bool h0, .bool h1, .bool h2, .bool h3, .bool h4], 5⟩ :: G)))), _, (by simp only; omega), (.cons rfl .nil), (.cons rfl (.cons rfl (.cons rfl (.cons rfl (.cons rfl (.cons rfl (.cons rfl (.cons rfl (.cons rfl (.cons rfl .nil)))))))))), (by repeat (first | exact Take.nil | apply Take.one (by repeat (first | exact Pick.here | apply Pick.there | apply Pick.far)) | apply Take.seg (by repeat (first | exact PickS.last | exact PickS.one | exact PickS.here | exact PickS.nil | apply PickS.there | apply PickS.far)) | exact Take.last (by repeat (first | exact PickS.last | exact PickS.one | exact PickS.here | exact PickS.nil | apply PickS.there | apply PickS.far)))), ⟨rfl, by omega, take_all (p := fun y => ¬ Small y) hy0 hqs (by rintro ⟨q1, q2⟩; simp only [Tm.kind, Tm.name] at q1 q2; first | exact h22 q1 | (rw [bstr_size] at h227; omega))⟩⟩
                ·
                  obtain rfl : q = up.length := by omega
                  rw [List.take_length] at hqs
                  have hfx : Free (.mk kx nx asx) := free_of hmp hqs
                  refine TL.nil ?_
                  refine T.seq ?_
                  refine T.cond_f rfl ?_
                  refine T.exit ?_
                  refine T.region ?_
                  refine TL.cons rfl (V1.t (V1.move' (by (conv => lhs; whnf) <;> rfl)) ?_)
                  refine TL.cons rfl (V1.t (V1.loadN one_26 sz_26 rfl (RdN.whole (by repeat (first | exact Find.here | assumption | apply Find.there | apply Find.far))) (by rfl)) ?_)
                  refine TL.cons rfl (T1.buildOne (cs := [.int .i64 kx, .string (bstr nx), .slice ax asx.length cx]) ty_23 sz_26 zr_26 (by decide) rfl (by rfl) (fun b117 => ?_))
                  refine TL.cons rfl (T1.appendG ty_23 kd_23 sz_26 by_26 zr_26 rfl (by decide) (by decide) rfl rfl (.inr rfl) hsl (.sl (vs := [.int .i64 kx, .string (bstr nx), .slice ax asx.length cx]) (RdN.at0 (by repeat (first | exact Find.here | assumption | apply Find.there | apply Find.far))) (by rfl)) (ones rfl) 200 (by show _ + 3 ≤ _; omega) (by decide) (by repeat (first | exact PickS.last | exact PickS.one | exact PickS.here | exact PickS.nil | apply PickS.there | apply PickS.far)) (fun s3 Ls3 hsl3 => ?_))
                  obtain ⟨as2, cs2, rfl, hrs3⟩ : ∃ a c, s3 = .slice a ((wtBase [h0, h1, h2, h3, h4] 5).length + (j + 1)) c ∧ RowR w0 (Ls3 ++ Q) 3 (.slice a ((wtBase [h0, h1, h2, h3, h4] 5).length + (j + 1)) c) ((wtBase [h0, h1, h2, h3, h4] 5).length + (j + 1)) (xs ++ [.int .i64 kx, .string (bstr nx), .slice ax asx.length cx]) := by
                    have hz := hsl3.tm (hxs.app (TmsR.one (hx.more Inc.nil)))
                    rw [List.length_append, List.length_append, List.length_take, Nat.min_eq_left hj, List.length_singleton, Nat.add_assoc] at hz
                    exact hz
                  refine TL.cons rfl (V1.t (V1.assign' (by (conv => lhs; whnf) <;> rfl)) ?_)
                  refine TL.nil ?_
                  refine T.region ?_
                  refine TL.cons rfl (V1.t (V1.add (c := ((j + 1 : Nat) : Int)) rfl rfl (by rw [wrap_i64 _ (by omega) (by omega)]; omega)) ?_)
                  refine TL.cons rfl (V1.t (V1.move' (by (conv => lhs; whnf) <;> rfl)) ?_)
                  refine TL.nil ?_
                  exact ⟨(j + 1, as2, cs2), Ls3 ++ (Q ++ (⟨b6, 0, [.int .i64 4, .string (bstr wAg), .slice ak 4 ck], 3⟩ :: ⟨b5, 0, (wNames.map fun l => Value.string (bstr l)), 5⟩ :: ⟨b2, 0, [.bool h0, .bool h1, .bool h2, .bool h3, .bool h4], 5⟩ :: G)), _, (by simp only; omega), (.cons rfl (.cons rfl .nil)), (.cons rfl (.cons rfl (.cons rfl (.cons rfl (.cons rfl .nil))))), (by repeat (first | exact Take.nil | apply Take.one (by repeat (first | exact Pick.here | apply Pick.there | apply Pick.far)) | apply Take.seg (by repeat (first | exact PickS.last | exact PickS.one | exact PickS.here | exact PickS.nil | apply PickS.there | apply PickS.far)) | exact Take.last (by repeat (first | exact PickS.last | exact PickS.one | exact PickS.here | exact PickS.nil | apply PickS.there | apply PickS.far)))), ⟨Ls3, _, rfl, by simp only; omega, hsl3, hrs3, by rw [take_one hx0, ← List.append_assoc]; exact hxs.app (TmsR.one (hx.more Inc.nil)), take_all (p := fun t => chk t = 0 ∧ Free t) hx0 hcf ⟨h17, hfx⟩, by simp only; rw [take_one hx0, ← List.append_assoc, nparts_app, nparts_cons, nparts_nil]; omega, by simp only; omega⟩⟩
        ·
          obtain rfl : j = ts.length := by omega
          rw [List.take_length] at hxs hcf hnp
          have hcx : ∀ t ∈ ts, chk t = 0 := fun t ht => (hcf t ht).1
          have hca : ∀ t ∈ (wtBase [h0, h1, h2, h3, h4] 5) ++ ts, chk t = 0 := chk_of (wtBase_chk _ _) hcx
          have hlaw := wt_law (h := [h0, h1, h2, h3, h4]) (xs := ts) rfl (fun t ht => ⟨chk_shp (hcf t ht).1, (hcf t ht).2⟩)
          refine TL.nil ?_
          refine T.seq ?_
          refine T.cond_f rfl ?_
          refine T.exit ?_
          refine T.seq ?_
          refine T.region ?_
          refine TL.cons rfl (V1.t (V1.move' (by (conv => lhs; whnf) <;> rfl)) ?_)
          refine TL.cons rfl (T1.callC has_19 rfl rfl (New_kn w0 (Ls ++ Q) (ts := (wtBase [h0, h1, h2, h3, h4] 5) ++ ts) (by rw [List.length_append]) hrs (hxs.more (Inc.skip Inc.refl)) hca (by omega)) (by repeat (first | exact Inc.nil | assumption | exact Inc.refl | exact Inc.here | apply Inc.app | apply Inc.cons (by repeat (first | exact Find.here | assumption | apply Find.there | apply Find.far)) | apply Inc.skip1 | apply Inc.skip)) (fun v_ Yk hY => ?_))
          obtain ⟨kb, l, rfl, hkn, hk⟩ := hY
          refine TL.cons rfl (V1.t (V1.move' (by (conv => lhs; whnf) <;> rfl)) ?_)
          refine TL.cons rfl (V1.t (V1.extract rfl (by rfl)) ?_)
          refine TL.cons rfl (V1.t (V1.extract rfl (by rfl)) ?_)
          refine TL.cons rfl (V1.t (V1.assign' (by (conv => lhs; whnf) <;> rfl)) ?_)
          refine TL.cons rfl (V1.t (V1.assign' (by (conv => lhs; whnf) <;> rfl)) ?_)
          refine TL.nil ?_
          refine T.seq ?_
          refine T.seq ?_
          refine T.region ?_
          refine TL.cons rfl (V1.t (V1.move' (by (conv => lhs; whnf) <;> rfl)) ?_)
          refine TL.cons rfl (V1.t (V1.neI (r := false) rfl rfl (by decide)) ?_)
          refine TL.cons rfl (V1.t (V1.move' (by (conv => lhs; whnf) <;> rfl)) ?_)
          refine TL.cons rfl (V1.t (V1.move' (by (conv => lhs; whnf) <;> rfl)) ?_)
          refine TL.cons rfl (V1.t (V1.eqNil ty_35 rfl rfl) ?_)
          refine TL.cons rfl (V1.t (V1.pick rfl (by (conv => lhs; whnf) <;> rfl)) ?_)
          refine TL.nil ?_
          refine T.cond_f rfl ?_
          refine T.skip ?_
          refine T.cut (σ := Unit) (l0 := [(1, _), (2, _), (6, _), (15, _)]) (fun x => [(17, .bool (h0 || h3))]) (fun _ L => L = Yk ++ (Ls ++ (Q ++ (⟨b6, 0, [.int .i64 4, .string (bstr wAg), .slice ak 4 ck], 3⟩ :: ⟨b5, 0, (wNames.map fun l => Value.string (bstr l)), 5⟩ :: ⟨b2, 0, [.bool h0, .bool h1, .bool h2, .bool h3, .bool h4], 5⟩ :: G)))) (.cons (by (conv => lhs; whnf) <;> rfl) (.cons (by (conv => lhs; whnf) <;> rfl) (.cons (by (conv => lhs; whnf) <;> rfl) (.cons (by (conv => lhs; whnf) <;> rfl) .nil)))) ?_ ?_
          ·
            refine T.region ?_
            refine TL.cons rfl (V1.t (V1.indexAddrA ty_22 sz_4 rfl rfl (by decide) (by decide)) ?_)
            refine TL.cons rfl (V1.t (V1.load1 one_4 rfl (.own (by repeat (first | exact Find.here | assumption | apply Find.there | apply Find.far)) (by rfl))) ?_)
            rcases Bool.eq_false_or_eq_true h0 with e0 | e0 <;> subst e0
            ·
              refine TL.cons rfl (V1.t (V1.move' (by (conv => lhs; whnf) <;> rfl)) ?_)
              refine TL.no rfl ?_
              refine TL.no rfl ?_
              refine TL.cons rfl (V1.t (V1.pick rfl (by (conv => lhs; whnf) <;> rfl)) ?_)
              refine TL.cons rfl (V1.t (V1.assign' (by (conv => lhs; whnf) <;> rfl)) ?_)
              refine TL.nil ?_
              exact ⟨(), _, _, trivial, (.cons rfl .nil), (.cons rfl (.cons rfl (.cons rfl (.cons rfl .nil)))), (by repeat (first | exact Take.nil | apply Take.one (by repeat (first | exact Pick.here | apply Pick.there | apply Pick.far)) | apply Take.seg (by repeat (first | exact PickS.last | exact PickS.one | exact PickS.here | exact PickS.nil | apply PickS.there | apply PickS.far)) | exact Take.last (by repeat (first | exact PickS.last | exact PickS.one | exact PickS.here | exact PickS.nil | apply PickS.there | apply PickS.far)))), rfl⟩
            ·
              refine TL.cons rfl (V1.t (V1.move' (by (conv => lhs; whnf) <;> rfl)) ?_)
              refine TL.cons rfl (V1.t (V1.indexAddrA ty_22 sz_4 rfl rfl (by decide) (by decide)) ?_)
              refine TL.cons rfl (V1.t (V1.load1 one_4 rfl (.own (by repeat (first | exact Find.here | assumption | apply Find.there | apply Find.far)) (by rfl))) ?_)
              rcases Bool.eq_false_or_eq_true h3 with e3 | e3 <;> subst e3
              ·
                refine TL.cons rfl (V1.t (V1.pick rfl (by (conv => lhs; whnf) <;> rfl)) ?_)
                refine TL.cons rfl (V1.t (V1.assign' (by (conv => lhs; whnf) <;> rfl)) ?_)
                refine TL.nil ?_
                exact ⟨(), _, _, trivial, (.cons rfl .nil), (.cons rfl (.cons rfl (.cons rfl (.cons rfl .nil)))), (by repeat (first | exact Take.nil | apply Take.one (by repeat (first | exact Pick.here | apply Pick.there | apply Pick.far)) | apply Take.seg (by repeat (first | exact PickS.last | exact PickS.one | exact PickS.here | exact PickS.nil | apply PickS.there | apply PickS.far)) | exact Take.last (by repeat (first | exact PickS.last | exact PickS.one | exact PickS.here | exact PickS.nil | apply PickS.there | apply PickS.far)))), rfl⟩
              ·
                refine TL.cons rfl (V1.t (V1.pick rfl (by (conv => lhs; whnf) <;> rfl)) ?_)
                refine TL.cons rfl (V1.t (V1.assign' (by (conv => lhs; whnf) <;> rfl)) ?_)
                refine TL.nil ?_
                exact ⟨(), _, _, trivial, (.cons rfl .nil), (.cons rfl (.cons rfl (.cons rfl (.cons rfl .nil)))), (by repeat (first | exact Take.nil | apply Take.one (by repeat (first | exact Pick.here | apply Pick.there | apply Pick.far)) | apply Take.seg (by repeat (first | exact PickS.last | exact PickS.one | exact PickS.here | exact PickS.nil | apply PickS.there | apply PickS.far)) | exact Take.last (by repeat (first | exact PickS.last | exact PickS.one | exact PickS.here | exact PickS.nil | apply PickS.there | apply PickS.far)))), rfl⟩
          ·
            rintro _ e_ L rfl
            obtain ⟨h03, e03⟩ : ∃ z, z = (h0 || h3) := ⟨_, rfl⟩
            rw [← e03]
            refine T.cut (σ := Unit) (l0 := [(1, _), (6, _), (15, _)]) (fun x => [(18, .bool (begunB [h0, h1, h2, h3, h4]))]) (fun _ L => L = Yk ++ (Ls ++ (Q ++ (⟨b6, 0, [.int .i64 4, .string (bstr wAg), .slice ak 4 ck], 3⟩ :: ⟨b5, 0, (wNames.map fun l => Value.string (bstr l)), 5⟩ :: ⟨b2, 0, [.bool h0, .bool h1, .bool h2, .bool h3, .bool h4], 5⟩ :: G)))) (.cons (by (conv => lhs; whnf) <;> rfl) (.cons (by (conv => lhs; whnf) <;> rfl) (.cons (by (conv => lhs; whnf) <;> rfl) .nil))) ?_ ?_
            ·
              refine T.region ?_
              refine TL.cons rfl (V1.t (V1.move' (by (conv => lhs; whnf) <;> rfl)) ?_)
              rcases Bool.eq_false_or_eq_true h03 with e3 | e3 <;> subst e3
              ·
                refine TL.cons rfl (V1.t (V1.move' (by (conv => lhs; whnf) <;> rfl)) ?_)
                refine TL.cons rfl (V1.t (V1.indexAddrA ty_22 sz_4 rfl rfl (by decide) (by decide)) ?_)
                refine TL.cons rfl (V1.t (V1.load1 one_4 rfl (.own (by repeat (first | exact Find.here | assumption | apply Find.there | apply Find.far)) (by rfl))) ?_)
                rcases Bool.eq_false_or_eq_true h1 with e1 | e1 <;> subst e1
                ·
                  refine TL.cons rfl (V1.t (V1.move' (by (conv => lhs; whnf) <;> rfl)) ?_)
                  refine TL.no rfl ?_
                  refine TL.no rfl ?_
                  refine TL.cons rfl (V1.t (V1.pick rfl (by (conv => lhs; whnf) <;> rfl)) ?_)
                  refine TL.cons rfl (V1.t (V1.pick rfl (by (conv => lhs; whnf) <;> rfl)) ?_)
                  refine TL.cons rfl (V1.t (V1.move' (by (conv => lhs; whnf) <;> rfl)) ?_)
                  refine TL.cons rfl (V1.t (V1.indexAddrA ty_22 sz_4 rfl rfl (by decide) (by decide)) ?_)
                  refine TL.cons rfl (V1.t (V1.load1 one_4 rfl (.own (by repeat (first | exact Find.here | assumption | apply Find.there | apply Find.far)) (by rfl))) ?_)
                  refine TL.cons rfl (V1.t (V1.move' (by (conv => lhs; whnf) <;> rfl)) ?_)
                  refine TL.no rfl ?_
                  refine TL.no rfl ?_
                  refine TL.cons rfl (V1.t (V1.pick rfl (by (conv => lhs; whnf) <;> rfl)) ?_)
                  refine TL.cons rfl (V1.t (V1.pick rfl (by (conv => lhs; whnf) <;> rfl)) ?_)
                  refine TL.cons rfl (V1.t (V1.move' (by (conv => lhs; whnf) <;> rfl)) ?_)
                  refine TL.cons rfl (V1.t (V1.indexAddrA ty_22 sz_4 rfl rfl (by decide) (by decide)) ?_)
                  refine TL.cons rfl (V1.t (V1.load1 one_4 rfl (.own (by repeat (first | exact Find.here | assumption | apply Find.there | apply Find.far)) (by rfl))) ?_)
                  refine TL.cons rfl (V1.t (V1.move' (by (conv => lhs; whnf) <;> rfl)) ?_)
                  refine TL.no rfl ?_
                  refine TL.no rfl ?_
                  refine TL.cons rfl (V1.t (V1.pick rfl (by (conv => lhs; whnf) <;> rfl)) ?_)
                  refine TL.cons rfl (V1.t (V1.pick rfl (by (conv => lhs; whnf) <;> rfl)) ?_)
                  refine TL.cons rfl (V1.t (V1.assign' (by (conv => lhs; whnf) <;> rfl)) ?_)
                  refine TL.nil ?_
                  exact ⟨(), _, _, trivial, (.cons (congrArg Value.bool (by unfold begunB; simp only [List.getD_cons_zero, List.getD_cons_succ]; rw [← e03]; simp)) .nil), (.cons rfl (.cons rfl (.cons rfl .nil))), (by repeat (first | exact Take.nil | apply Take.one (by repeat (first | exact Pick.here | apply Pick.there | apply Pick.far)) | apply Take.seg (by repeat (first | exact PickS.last | exact PickS.one | exact PickS.here | exact PickS.nil | apply PickS.there | apply PickS.far)) | exact Take.last (by repeat (first | exact PickS.last | exact PickS.one | exact PickS.here | exact PickS.nil | apply PickS.there | apply PickS.far)))), rfl⟩
                ·
                  refine TL.cons rfl (V1.t (V1.move' (by (conv => lhs; whnf) <;> rfl)) ?_)
                  refine TL.cons rfl (V1.t (V1.indexAddrA ty_22 sz_4 rfl rfl (by decide) (by decide)) ?_)
                  refine TL.cons rfl (V1.t (V1.load1 one_4 rfl (.own (by repeat (first | exact Find.here | assumption | apply Find.there | apply Find.far)) (by rfl))) ?_)
                  rcases Bool.eq_false_or_eq_true h2 with e2 | e2 <;> subst e2
                  ·
                    refine TL.cons rfl (V1.t (V1.pick rfl (by (conv => lhs; whnf) <;> rfl)) ?_)
                    refine TL.cons rfl (V1.t (V1.pick rfl (by (conv => lhs; whnf) <;> rfl)) ?_)
                    refine TL.cons rfl (V1.t (V1.move' (by (conv => lhs; whnf) <;> rfl)) ?_)
                    refine TL.cons rfl (V1.t (V1.indexAddrA ty_22 sz_4 rfl rfl (by decide) (by decide)) ?_)
                    refine TL.cons rfl (V1.t (V1.load1 one_4 rfl (.own (by repeat (first | exact Find.here | assumption | apply Find.there | apply Find.far)) (by rfl))) ?_)
                    refine TL.cons rfl (V1.t (V1.move' (by (conv => lhs; whnf) <;> rfl)) ?_)
                    refine TL.cons rfl (V1.t (V1.indexAddrA ty_22 sz_4 rfl rfl (by decide) (by decide)) ?_)
                    refine TL.cons rfl (V1.t (V1.load1 one_4 rfl (.own (by repeat (first | exact Find.here | assumption | apply Find.there | apply Find.far)) (by rfl))) ?_)
                    rcases Bool.eq_false_or_eq_true h3 with e3 | e3 <;> subst e3
                    ·
                      refine TL.cons rfl (V1.t (V1.pick rfl (by (conv => lhs; whnf) <;> rfl)) ?_)
                      refine TL.cons rfl (V1.t (V1.pick rfl (by (conv => lhs; whnf) <;> rfl)) ?_)
                      refine TL.cons rfl (V1.t (V1.move' (by (conv => lhs; whnf) <;> rfl)) ?_)
                      refine TL.cons rfl (V1.t (V1.indexAddrA ty_22 sz_4 rfl rfl (by decide) (by decide)) ?_)
                      refine TL.cons rfl (V1.t (V1.load1 one_4 rfl (.own (by repeat (first | exact Find.here | assumption | apply Find.there | apply Find.far)) (by rfl))) ?_)
                      refine TL.cons rfl (V1.t (V1.move' (by (conv => lhs; whnf) <;> rfl)) ?_)
                      refine TL.cons rfl (V1.t (V1.indexAddrA ty_22 sz_4 rfl rfl (by decide) (by decide)) ?_)
                      refine TL.cons rfl (V1.t (V1.load1 one_4 rfl (.own (by repeat (first | exact Find.here | assumption | apply Find.there | apply Find.far)) (by rfl))) ?_)
                      rcases Bool.eq_false_or_eq_true h4 with e4 | e4 <;> subst e4
                      ·
                        refine TL.cons rfl (V1.t (V1.pick rfl (by (conv => lhs; whnf) <;> rfl)) ?_)
                        refine TL.cons rfl (V1.t (V1.pick rfl (by (conv => lhs; whnf) <;> rfl)) ?_)
                        refine TL.cons rfl (V1.t (V1.assign' (by (conv => lhs; whnf) <;> rfl)) ?_)
                        refine TL.nil ?_
                        exact ⟨(), _, _, trivial, (.cons (congrArg Value.bool (by unfold begunB; simp only [List.getD_cons_zero, List.getD_cons_succ]; rw [← e03]; simp)) .nil), (.cons rfl (.cons rfl (.cons rfl .nil))), (by repeat (first | exact Take.nil | apply Take.one (by repeat (first | exact Pick.here | apply Pick.there | apply Pick.far)) | apply Take.seg (by repeat (first | exact PickS.last | exact PickS.one | exact PickS.here | exact PickS.nil | apply PickS.there | apply PickS.far)) | exact Take.last (by repeat (first | exact PickS.last | exact PickS.one | exact PickS.here | exact PickS.nil | apply PickS.there | apply PickS.far)))), rfl⟩
                      ·
                        refine TL.cons rfl (V1.t (V1.pick rfl (by (conv => lhs; whnf) <;> rfl)) ?_)
                        refine TL.cons rfl (V1.t (V1.pick rfl (by (conv => lhs; whnf) <;> rfl)) ?_)
                        refine TL.cons rfl (V1.t (V1.assign' (by (conv => lhs; whnf) <;> rfl)) ?_)
                        refine TL.nil ?_
                        exact ⟨(), _, _, trivial, (.cons (congrArg Value.bool (by unfold begunB; simp only [List.getD_cons_zero, List.getD_cons_succ]; rw [← e03]; simp)) .nil), (.cons rfl (.cons rfl (.cons rfl .nil))), (by repeat (first | exact Take.nil | apply Take.one (by repeat (first | exact Pick.here | apply Pick.there | apply Pick.far)) | apply Take.seg (by repeat (first | exact PickS.last | exact PickS.one | exact PickS.here | exact PickS.nil | apply PickS.there | apply PickS.far)) | exact Take.last (by repeat (first | exact PickS.last | exact PickS.one | exact PickS.here | exact PickS.nil | apply PickS.there | apply PickS.far)))), rfl⟩
                    ·
                      refine TL.cons rfl (V1.t (V1.pick rfl (by (conv => lhs; whnf) <;> rfl)) ?_)
                      refine TL.cons rfl (V1.t (V1.pick rfl (by (conv => lhs; whnf) <;> rfl)) ?_)
                      refine TL.cons rfl (V1.t (V1.move' (by (conv => lhs; whnf) <;> rfl)) ?_)
                      refine TL.no rfl ?_
                      refine TL.no rfl ?_
                      refine TL.no rfl ?_
                      refine TL.no rfl ?_
                      refine TL.no rfl ?_
                      refine TL.no rfl ?_
                      refine TL.cons rfl (V1.t (V1.pick rfl (by (conv => lhs; whnf) <;> rfl)) ?_)
                      refine TL.cons rfl (V1.t (V1.assign' (by (conv => lhs; whnf) <;> rfl)) ?_)
                      refine TL.nil ?_
                      exact ⟨(), _, _, trivial, (.cons (congrArg Value.bool (by unfold begunB; simp only [List.getD_cons_zero, List.getD_cons_succ]; rw [← e03]; simp)) .nil), (.cons rfl (.cons rfl (.cons rfl .nil))), (by repeat (first | exact Take.nil | apply Take.one (by repeat (first | exact Pick.here | apply Pick.there | apply Pick.far)) | apply Take.seg (by repeat (first | exact PickS.last | exact PickS.one | exact PickS.here | exact PickS.nil | apply PickS.there | apply PickS.far)) | exact Take.last (by repeat (first | exact PickS.last | exact PickS.one | exact PickS.here | exact PickS.nil | apply PickS.there | apply PickS.far)))), rfl⟩
                  ·
                    refine TL.cons rfl (V1.t (V1.pick rfl (by (conv => lhs; whnf) <;> rfl)) ?_)
                    refine TL.cons rfl (V1.t (V1.pick rfl (by (conv => lhs; whnf) <;> rfl)) ?_)
                    refine TL.cons rfl (V1.t (V1.move' (by (conv => lhs; whnf) <;> rfl)) ?_)
                    refine TL.no rfl ?_
                    refine TL.no rfl ?_
                    refine TL.no rfl ?_
                    refine TL.no rfl ?_
                    refine TL.no rfl ?_
                    refine TL.no rfl ?_
                    refine TL.cons rfl (V1.t (V1.pick rfl (by (conv => lhs; whnf) <;> rfl)) ?_)
                    refine TL.cons rfl (V1.t (V1.move' (by (conv => lhs; whnf) <;> rfl)) ?_)
                    refine TL.no rfl ?_
                    refine TL.no rfl ?_
                    refine TL.no rfl ?_
                    refine TL.no rfl ?_
                    refine TL.no rfl ?_
                    refine TL.no rfl ?_
                    refine TL.cons rfl (V1.t (V1.pick rfl (by (conv => lhs; whnf) <;> rfl)) ?_)
                    refine TL.cons rfl (V1.t (V1.assign' (by (conv => lhs; whnf) <;> rfl)) ?_)
                    refine TL.nil ?_
                    exact ⟨(), _, _, trivial, (.cons (congrArg Value.bool (by unfold begunB; simp only [List.getD_cons_zero, List.getD_cons_succ]; rw [← e03]; simp)) .nil), (.cons rfl (.cons rfl (.cons rfl .nil))), (by repeat (first | exact Take.nil | apply Take.one (by repeat (first | exact Pick.here | apply Pick.there | apply Pick.far)) | apply Take.seg (by repeat (first | exact PickS.last | exact PickS.one | exact PickS.here | exact PickS.nil | apply PickS.there | apply PickS.far)) | exact Take.last (by repeat (first | exact PickS.last | exact PickS.one | exact PickS.here | exact PickS.nil | apply PickS.there | apply PickS.far)))), rfl⟩
              ·
                refine TL.cons rfl (V1.t (V1.move' (by (conv => lhs; whnf) <;> rfl)) ?_)
                refine TL.no rfl ?_
                refine TL.no rfl ?_
                refine TL.no rfl ?_
                refine TL.no rfl ?_
                refine TL.no rfl ?_
                refine TL.no rfl ?_
                refine TL.cons rfl (V1.t (V1.pick rfl (by (conv => lhs; whnf) <;> rfl)) ?_)
                refine TL.cons rfl (V1.t (V1.move' (by (conv => lhs; whnf) <;> rfl)) ?_)
                refine TL.no rfl ?_
                refine TL.no rfl ?_
                refine TL.no rfl ?_
                refine TL.no rfl ?_
                refine TL.no rfl ?_
                refine TL.no rfl ?_
                refine TL.cons rfl (V1.t (V1.pick rfl (by (conv => lhs; whnf) <;> rfl)) ?_)
                refine TL.cons rfl (V1.t (V1.move' (by (conv => lhs; whnf) <;> rfl)) ?_)
                refine TL.no rfl ?_
                refine TL.no rfl ?_
                refine TL.no rfl ?_
                refine TL.no rfl ?_
                refine TL.no rfl ?_
                refine TL.no rfl ?_
                refine TL.cons rfl (V1.t (V1.pick rfl (by (conv => lhs; whnf) <;> rfl)) ?_)
                refine TL.cons rfl (V1.t (V1.assign' (by (conv => lhs; whnf) <;> rfl)) ?_)
                refine TL.nil ?_
                exact ⟨(), _, _, trivial, (.cons (congrArg Value.bool (by unfold begunB; simp only [List.getD_cons_zero, List.getD_cons_succ]; rw [← e03]; simp)) .nil), (.cons rfl (.cons rfl (.cons rfl .nil))), (by repeat (first | exact Take.nil | apply Take.one (by repeat (first | exact Pick.here | apply Pick.there | apply Pick.far)) | apply Take.seg (by repeat (first | exact PickS.last | exact PickS.one | exact PickS.here | exact PickS.nil | apply PickS.there | apply PickS.far)) | exact Take.last (by repeat (first | exact PickS.last | exact PickS.one | exact PickS.here | exact PickS.nil | apply PickS.there | apply PickS.far)))), rfl⟩
            ·
              rintro _ e_ L rfl
              refine T.seq ?_
              refine T.seq ?_
              refine T.region ?_
              refine TL.cons rfl (V1.t (V1.move' (by (conv => lhs; whnf) <;> rfl)) ?_)
              refine TL.cons rfl (V1.t (V1.lenSl ty_23 rfl) ?_)
              refine TL.cons rfl (V1.t (V1.move' (by (conv => lhs; whnf) <;> rfl)) ?_)
              refine TL.nil ?_
              refine T.block ?_
              refine T.loopL (σ := Nat) (l0 := [(6, _), (15, _), (18, _), (162, _), (163, _)]) (fun x => [(164, .int .i64 (x : Nat))]) (fun j L => L = Yk ++ (Ls ++ (Q ++ (⟨b6, 0, [.int .i64 4, .string (bstr wAg), .slice ak 4 ck], 3⟩ :: ⟨b5, 0, (wNames.map fun l => Value.string (bstr l)), 5⟩ :: ⟨b2, 0, [.bool h0, .bool h1, .bool h2, .bool h3, .bool h4], 5⟩ :: G))) ∧ j ≤ ts.length) (fun j => ts.length - j) 0 (.cons rfl .nil) (.cons (by (conv => lhs; whnf) <;> rfl) (.cons (by (conv => lhs; whnf) <;> rfl) (.cons (by (conv => lhs; whnf) <;> rfl) (.cons (by (conv => lhs; whnf) <;> rfl) (.cons (by (conv => lhs; whnf) <;> rfl) .nil))))) (by repeat (first | exact Take.nil | apply Take.one (by repeat (first | exact Pick.here | apply Pick.there | apply Pick.far)) | apply Take.seg (by repeat (first | exact PickS.last | exact PickS.one | exact PickS.here | exact PickS.nil | apply PickS.there | apply PickS.far)) | exact Take.last (by repeat (first | exact PickS.last | exact PickS.one | exact PickS.here | exact PickS.nil | apply PickS.there | apply PickS.far)))) (⟨rfl, Nat.zero_le _⟩) ?_
              rintro j e_ L ⟨rfl, hj⟩
              refine T.seq ?_
              refine T.region ?_
              refine TL.cons rfl (T1.ltI_split rfl rfl (fun h33 => ?_) (fun h33 => ?_))
              ·
                obtain ⟨x, hx0⟩ : ∃ x, ts[j]? = some x := ⟨_, List.getElem?_eq_getElem (by omega)⟩
                obtain ⟨bx, ox, cs_, rfl, hx, hrdx⟩ := hr.term ht hx0 P
                obtain ⟨kx, nx, asx⟩ := x
                obtain ⟨ax, cx, vsx, rfl, hrx, hlx, htx⟩ := hx.inv
                try simp only at *
                refine TL.nil ?_
                refine T.seq ?_
                refine T.cond_t rfl ?_
                refine T.skip ?_
                refine T.seq ?_
                refine T.block ?_
                refine T.seq ?_
                refine T.region ?_
                refine TL.cons rfl (V1.t (V1.indexAddrS ty_23 sz_26 rfl rfl (by omega) (by omega)) ?_)
                refine TL.cons rfl (V1.t (V1.loadN (vs := [.int .i64 kx, .string (bstr nx), .slice ax asx.length cx]) one_26 sz_26 rfl (hrdx _ rfl rfl _ Inc.nil) rfl) ?_)
                refine TL.cons rfl (T1.allocN 3 zr_26 rfl (fun b20 => ?_))
                refine TL.cons rfl (T1.storeN rfl rfl sz_26 (ones rfl) (by repeat (first | exact Sub.one | apply Sub.there | apply Sub.far)) (by rfl) (by rfl) ?_)
                refine TL.nil ?_
                refine T.seq ?_
                refine T.region ?_
                refine TL.cons rfl (V1.t (V1.loadN one_26 sz_26 rfl (RdN.whole (by repeat (first | exact Find.here | assumption | apply Find.there | apply Find.far))) (by rfl)) ?_)
                refine TL.cons rfl (T1.callC has_18 rfl rfl (Parts_any w0 [] (.mk kx nx asx) _ hx (by have := (chk_iff.1 (hcx _ (List.mem_of_getElem? hx0))).1; omega)) (by repeat (first | exact Inc.nil | assumption | exact Inc.refl | exact Inc.here | apply Inc.app | apply Inc.cons (by repeat (first | exact Find.here | assumption | apply Find.there | apply Find.far)) | apply Inc.skip1 | apply Inc.skip)) (fun v_ Yp hY => ?_))
                obtain ⟨up, wp, hsp, hmp, hslp, htp⟩ := hY
                obtain ⟨ap, cp, rfl, hrp⟩ := SlG.tm hslp htp
                have hlp := npart_of hsp.nodup hmp
                have hlp2 := npart_le (.mk kx nx asx)
                have hlp3 := (chk_iff.1 (hcx _ (List.mem_of_getElem? hx0))).1
                refine TL.cons rfl (V1.t (V1.lenSl ty_23 rfl) ?_)
                refine TL.cons rfl (V1.t (V1.move' (by (conv => lhs; whnf) <;> rfl)) ?_)
                refine TL.nil ?_
                refine T.block ?_
                refine T.loopL (σ := Nat) (l0 := [(6, _), (15, _), (18, _), (162, _), (163, _), (164, _), (169, _), (170, _)]) (fun x => [(171, .int .i64 (x : Nat))]) (fun q L => L = Yp ++ (Yk ++ (Ls ++ (Q ++ (⟨b6, 0, [.int .i64 4, .string (bstr wAg), .slice ak 4 ck], 3⟩ :: ⟨b5, 0, (wNames.map fun l => Value.string (bstr l)), 5⟩ :: ⟨b2, 0, [.bool h0, .bool h1, .bool h2, .bool h3, .bool h4], 5⟩ :: G)))) ∧ q ≤ up.length) (fun q => up.length - q) 0 (.cons rfl .nil) (.cons (by (conv => lhs; whnf) <;> rfl) (.cons (by (conv => lhs; whnf) <;> rfl) (.cons (by (conv => lhs; whnf) <;> rfl) (.cons (by (conv => lhs; whnf) <;> rfl) (.cons (by (conv => lhs; whnf) <;> rfl) (.cons (by (conv => lhs; whnf) <;> rfl) (.cons (by (conv => lhs; whnf) <;> rfl) (.cons (by (conv => lhs; whnf) <;> rfl) .nil)))))))) (by repeat (first | exact Take.nil | apply Take.one (by repeat (first | exact Pick.here | apply Pick.there | apply Pick.far)) | apply Take.seg (by repeat (first | exact PickS.last | exact PickS.one | exact PickS.here | exact PickS.nil | apply PickS.there | apply PickS.far)) | exact Take.last (by repeat (first | exact PickS.last | exact PickS.one | exact PickS.here | exact PickS.nil | apply PickS.there | apply PickS.far)))) (⟨rfl, Nat.zero_le _⟩) ?_
                rintro q e_ L ⟨rfl, hq⟩
                refine T.seq ?_
                refine T.region ?_
                refine TL.cons rfl (T1.ltI_split rfl rfl (fun h36 => ?_) (fun h36 => ?_))
                ·
                  obtain ⟨y, hy0⟩ : ∃ y, up[q]? = some y := ⟨_, List.getElem?_eq_getElem (by omega)⟩
                  obtain ⟨by_, oy, cs_, rfl, hy, hrdy⟩ := hrp.term htp hy0 P
                  obtain ⟨ky, ny, asy⟩ := y
                  obtain ⟨ay, cy, vsy, rfl, hry, hly, hty⟩ := hy.inv
                  try simp only at *
                  refine TL.nil ?_
                  refine T.seq ?_
                  refine T.cond_t rfl ?_
                  refine T.skip ?_
                  refine T.seq ?_
                  refine T.block ?_
                  refine T.seq ?_
                  refine T.region ?_
                  refine TL.cons rfl (V1.t (V1.indexAddrS ty_23 sz_26 rfl rfl (by omega) (by omega)) ?_)
                  refine TL.cons rfl (V1.t (V1.loadN (vs := [.int .i64 ky, .string (bstr ny), .slice ay asy.length cy]) one_26 sz_26 rfl (hrdy _ rfl rfl _ (by repeat (first | exact Inc.nil | assumption | exact Inc.refl | exact Inc.here | apply Inc.app | apply Inc.cons (by repeat (first | exact Find.here | assumption | apply Find.there | apply Find.far)) | apply Inc.skip1 | apply Inc.skip))) rfl) ?_)
                  refine TL.cons rfl (T1.allocN 3 zr_26 rfl (fun b22 => ?_))
                  refine TL.cons rfl (T1.storeN rfl rfl sz_26 (ones rfl) (by repeat (first | exact Sub.one | apply Sub.there | apply Sub.far)) (by rfl) (by rfl) ?_)
                  refine TL.nil ?_
                  refine T.seq ?_
                  refine T.region ?_
                  refine TL.cons rfl (V1.t (V1.fieldAddr fl_26_0 rfl) ?_)
                  refine TL.cons rfl (V1.t (V1.load1 one_3 rfl (.own (by repeat (first | exact Find.here | assumption | apply Find.there | apply Find.far)) (by rfl))) ?_)
                  refine TL.cons rfl (T1.eqI_split rfl rfl (fun h38 => ?_) (fun h38 => ?_))
                  ·
                    refine TL.cons rfl (V1.t (V1.move' (by (conv => lhs; whnf) <;> rfl)) ?_)
                    refine TL.cons rfl (V1.t (V1.fieldAddr fl_26_1 rfl) ?_)
                    refine TL.cons rfl (V1.t (V1.load1 one_9 rfl (.own (by repeat (first | exact Find.here | assumption | apply Find.there | apply Find.far)) (by rfl))) ?_)
                    refine TL.cons rfl (T1.eqS_split (l := ny) (m := wW) rfl rfl (fun h386 => ?_) (fun h386 => ?_))
                    ·
                      refine TL.cons rfl (V1.t (V1.pick rfl (by (conv => lhs; whnf) <;> rfl)) ?_)
                      refine TL.nil ?_
                      refine T.cond_t rfl ?_
                      refine T.seq ?_
                      refine T.region ?_
                      refine TL.cons rfl (V1.t (V1.assign' (by (conv => lhs; whnf) <;> rfl)) ?_)
                      refine TL.nil ?_
                      refine T.ret ?_
                      exact ⟨_, G, _, .cons (.tmp (by (conv => lhs; whnf) <;> rfl)) .nil, (by repeat (first | exact Take.nil | apply Take.one (by repeat (first | exact Pick.here | apply Pick.there | apply Pick.far)) | apply Take.seg (by repeat (first | exact PickS.last | exact PickS.one | exact PickS.here | exact PickS.nil | apply PickS.there | apply PickS.far)) | exact Take.last (by repeat (first | exact PickS.last | exact PickS.one | exact PickS.here | exact PickS.nil | apply PickS.there | apply PickS.far)))), rfl, rfl⟩
                    ·
                      refine TL.cons rfl (V1.t (V1.pick rfl (by (conv => lhs; whnf) <;> rfl)) ?_)
                      refine TL.nil ?_
                      refine T.cond_f rfl ?_
                      refine T.skip ?_
                      refine T.region ?_
                      refine TL.cons rfl (V1.t (V1.add (c := ((q + 1 : Nat) : Int)) rfl rfl (by rw [wrap_i64 _ (by omega) (by omega)]; omega)) ?_)
                      refine TL.cons rfl (V1.t (V1.move' (by (conv => lhs; whnf) <;> rfl)) ?_)
                      refine TL.nil ?_
                      exact ⟨q + 1, Yp ++ (Yk ++ (Ls ++ (Q ++ (⟨b6, 0, [.int .i64 4, .string (bstr wAg), .slice ak 4 ck], 3⟩ :: ⟨b5, 0, (wNames.map fun l => Value.string (bstr l)), 5⟩ :: ⟨b2, 0, [.bool h0, .bool h1, .bool h2, .bool h3, .bool h4], 5⟩ :: G)))), _, (by simp only; omega), (.cons rfl .nil), (.cons rfl (.cons rfl (.cons rfl (.cons rfl (.cons rfl (.cons rfl (.cons rfl (.cons rfl .nil)))))))), (by repeat (first | exact Take.nil | apply Take.one (by repeat (first | exact Pick.here | apply Pick.there | apply Pick.far)) | apply Take.seg (by repeat (first | exact PickS.last | exact PickS.one | exact PickS.here | exact PickS.nil | apply PickS.there | apply PickS.far)) | exact Take.last (by repeat (first | exact PickS.last | exact PickS.one | exact PickS.here | exact PickS.nil | apply PickS.there | apply PickS.far)))), ⟨rfl, by omega⟩⟩
                  ·
                    refine TL.cons rfl (V1.t (V1.move' (by (conv => lhs; whnf) <;> rfl)) ?_)
                    refine TL.no rfl ?_
                    refine TL.no rfl ?_
                    refine TL.no rfl ?_
                    refine TL.cons rfl (V1.t (V1.pick rfl (by (conv => lhs; whnf) <;> rfl)) ?_)
                    refine TL.nil ?_
                    refine T.cond_f rfl ?_
                    refine T.skip ?_
                    refine T.region ?_
                    refine TL.cons rfl (V1.t (V1.add (c := ((q + 1 : Nat) : Int)) rfl rfl (by rw [wrap_i64 _ (by omega) (by omega)]; omega)) ?_)
                    refine TL.cons rfl (V1.t (V1.move' (by (conv => lhs; whnf) <;> rfl)) ?_)
                    refine TL.nil ?_
                    exact ⟨q + 1, Yp ++ (Yk ++ (Ls ++ (Q ++ (⟨b6, 0, [.int .i64 4, .string (bstr wAg), .slice ak 4 ck], 3⟩ :: ⟨b5, 0, (wNames.map fun l => Value.string (bstr l)), 5⟩ :: ⟨b2, 0, [.bool h0, .bool h1, .bool h2, .bool h3, .bool h4], 5⟩ :: G)))), _, (by simp only; omega), (.cons rfl .nil), (.cons rfl (.cons rfl (.cons rfl (.cons rfl (.cons rfl (.cons rfl (.cons rfl (.cons rfl .nil)))))))), (by repeat (first | exact Take.nil | apply Take.one (by repeat (first | exact Pick.here | apply Pick.there | apply Pick.far)) | apply Take.seg (by repeat (first | exact PickS.last | exact PickS.one | exact PickS.here | exact PickS.nil | apply PickS.there | apply PickS.far)) | exact Take.last (by repeat (first | exact PickS.last | exact PickS.one | exact PickS.here | exact PickS.nil | apply PickS.there | apply PickS.far)))), ⟨rfl, by omega⟩⟩
                ·
                  refine TL.nil ?_
                  refine T.seq ?_
                  refine T.cond_f rfl ?_
                  refine T.exit ?_
                  refine T.region ?_
                  refine TL.cons rfl (V1.t (V1.add (c := ((j + 1 : Nat) : Int)) rfl rfl (by rw [wrap_i64 _ (by omega) (by omega)]; omega)) ?_)
                  refine TL.cons rfl (V1.t (V1.move' (by (conv => lhs; whnf) <;> rfl)) ?_)
                  refine TL.nil ?_
                  exact ⟨j + 1, Yk ++ (Ls ++ (Q ++ (⟨b6, 0, [.int .i64 4, .string (bstr wAg), .slice ak 4 ck], 3⟩ :: ⟨b5, 0, (wNames.map fun l => Value.string (bstr l)), 5⟩ :: ⟨b2, 0, [.bool h0, .bool h1, .bool h2, .bool h3, .bool h4], 5⟩ :: G))), _, (by simp only; omega), (.cons rfl .nil), (.cons rfl (.cons rfl (.cons rfl (.cons rfl (.cons rfl .nil))))), (by repeat (first | exact Take.nil | apply Take.one (by repeat (first | exact Pick.here | apply Pick.there | apply Pick.far)) | apply Take.seg (by repeat (first | exact PickS.last | exact PickS.one | exact PickS.here | exact PickS.nil | apply PickS.there | apply PickS.far)) | exact Take.last (by repeat (first | exact PickS.last | exact PickS.one | exact PickS.here | exact PickS.nil | apply PickS.there | apply PickS.far)))), ⟨rfl, by omega⟩⟩
              ·
                refine TL.nil ?_
                refine T.seq ?_
                refine T.cond_f rfl ?_
                refine T.exit ?_
                refine T.seq ?_
                refine T.region ?_
                refine TL.cons rfl (V1.t (V1.move' (by (conv => lhs; whnf) <;> rfl)) ?_)
                refine TL.cons rfl (T1.callV has_12 rfl rfl (Of_any w0 [] wW) (by repeat (first | exact Inc.nil | assumption | exact Inc.refl | exact Inc.here | apply Inc.app | apply Inc.cons (by repeat (first | exact Find.here | assumption | apply Find.there | apply Find.far)) | apply Inc.skip1 | apply Inc.skip)) (fun v_ hv => ?_))
                obtain rfl := hv
                refine TL.cons rfl (T1.callV has_20 rfl rfl (Makes_d hkn hk [] (t := at_ wW) TmR.atom) (by repeat (first | exact Inc.nil | assumption | exact Inc.refl | exact Inc.here | apply Inc.app | apply Inc.cons (by repeat (first | exact Find.here | assumption | apply Find.there | apply Find.far)) | apply Inc.skip1 | apply Inc.skip)) (fun v_ hv => ?_))
                obtain rfl := hv
                rw [ansB_is hlaw.1]
                refine TL.cons rfl (V1.t (V1.move' (by (conv => lhs; whnf) <;> rfl)) ?_)
                refine TL.cons rfl (V1.t (V1.eqB (r := true) ty_4 rfl rfl (by simp)) ?_)
                refine TL.cons rfl (V1.t (V1.move' (by (conv => lhs; whnf) <;> rfl)) ?_)
                refine TL.cons rfl (V1.t (V1.move' (by (conv => lhs; whnf) <;> rfl)) ?_)
                refine TL.cons rfl (V1.t (V1.loadN one_26 sz_26 rfl (RdN.whole (by repeat (first | exact Find.here | assumption | apply Find.there | apply Find.far))) (by rfl)) ?_)
                refine TL.cons rfl (T1.callV has_20 rfl rfl (Makes_d hkn hk Q (t := wtKey) hkq) (by repeat (first | exact Inc.nil | assumption | exact Inc.refl | exact Inc.here | apply Inc.app | apply Inc.cons (by repeat (first | exact Find.here | assumption | apply Find.there | apply Find.far)) | apply Inc.skip1 | apply Inc.skip)) (fun v_ hv => ?_))
                obtain rfl := hv
                rw [ansB_is hlaw.2]
                refine TL.cons rfl (V1.t (V1.move' (by (conv => lhs; whnf) <;> rfl)) ?_)
                refine TL.cons rfl (V1.t (V1.eqB (r := true) ty_4 rfl rfl (by simp)) ?_)
                refine TL.cons rfl (V1.t (V1.pick rfl (by (conv => lhs; whnf) <;> rfl)) ?_)
                refine TL.cons rfl (V1.t (V1.assign' (by (conv => lhs; whnf) <;> rfl)) ?_)
                refine TL.nil ?_
                refine T.ret ?_
                exact ⟨_, G, _, .cons (.tmp (by (conv => lhs; whnf) <;> rfl)) .nil, (by repeat (first | exact Take.nil | apply Take.one (by repeat (first | exact Pick.here | apply Pick.there | apply Pick.far)) | apply Take.seg (by repeat (first | exact PickS.last | exact PickS.one | exact PickS.here | exact PickS.nil | apply PickS.there | apply PickS.far)) | exact Take.last (by repeat (first | exact PickS.last | exact PickS.one | exact PickS.here | exact PickS.nil | apply PickS.there | apply PickS.far)))), rfl, rfl⟩

end Go.Proofs.YtlpkcbkflfbclaaDoor.S
