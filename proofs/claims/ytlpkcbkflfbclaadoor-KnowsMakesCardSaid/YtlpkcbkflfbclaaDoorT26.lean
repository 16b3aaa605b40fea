/- All terms that could matter. -/
import Derived.Test.YtlpkcbkflfbclaaDoorT25
import Derived.Test.YtlpkcbkflfbclaaDoorRefSpec
namespace Go.Proofs.YtlpkcbkflfbclaaDoor.S
open Go.RowKit

theorem nparts_le_of {l : List Tm} {i : Nat} {x : Tm} (hx : l[i]? = some x) : nparts (l.take i) + npart x ≤ nparts l := by
  have h1 := nparts_take hx
  have h2 : nparts (l.take (i + 1)) + nparts (l.drop (i + 1)) = nparts l := by rw [← nparts_app, List.take_append_drop]
  omega
set_option maxRecDepth 100000 in
set_option maxHeartbeats 8000000 in
theorem matter_any (w0 : World) (Ps : List Blk) {l : List Tm} {a : Option Addr} {c : Nat} {vs : List Value} (hr : RowR w0 Ps 3 (.slice a l.length c) l.length vs) (ht : TmsR w0 Ps l vs) (hok : ∀ x ∈ l, shp x = true ∧ x.size ≤ 1000) (hn : nparts l ≤ 1000) : FnG P 74 [.slice a l.length c] w0 Ps [] (fun v Y => ∃ Lo Q out xo, Y = Lo ++ Q ∧ SlG (some 49) v xo 3 Lo ∧ TmsR w0 (Q ++ Ps) out xo ∧ MatInv l l.length [] 0 out) := by
  have hll := nparts_len l
  refine FnG.of 59 [.tmp 2] Go.Proofs.Tryd.func74 rfl rfl rfl rfl (fun G hG => ?_)
  refine T.seq ?_
  refine T.region ?_
  refine TL.cons rfl (V1.t (V1.assign' (by (conv => lhs; whnf) <;> rfl)) ?_)
  refine TL.nil ?_
  refine T.seq ?_
  refine T.region ?_
  refine TL.cons rfl (V1.t (V1.assign' (by (conv => lhs; whnf) <;> rfl)) ?_)
  refine TL.nil ?_
  refine T.seq ?_
  refine T.seq ?_
  refine T.region ?_
  refine TL.cons rfl (V1.t (V1.assign' (by (conv => lhs; whnf) <;> rfl)) ?_)
  refine TL.nil ?_
  refine T.block ?_
  refine T.loopL (σ := Nat × Value) (l0 := [(0, _)]) (fun x => [(4, .int .i64 (x.1 : Nat)), (3, x.2)]) (fun x L => ∃ Lo Q xo out, L = Lo ++ (Q ++ G) ∧ x.1 ≤ l.length ∧ SlG (some 49) x.2 xo 3 Lo ∧ TmsR w0 (Q ++ Ps) out xo ∧ MatInv l x.1 [] 0 out) (fun x => l.length - x.1) (0, .slice none 0 0) (.cons rfl (.cons rfl .nil)) (.cons (by (conv => lhs; whnf) <;> rfl) .nil) (by repeat (first | exact Take.nil | apply Take.one (by repeat (first | exact Pick.here | apply Pick.there | apply Pick.far)) | apply Take.seg (by repeat (first | exact PickS.last | exact PickS.one | exact PickS.here | exact PickS.nil | apply PickS.there | apply PickS.far)) | exact Take.last (by repeat (first | exact PickS.last | exact PickS.one | exact PickS.here | exact PickS.nil | apply PickS.there | apply PickS.far)))) (⟨[], [], [], [], rfl, Nat.zero_le _, SlG.nil, TmsR.nil, MatInv.start l []⟩) ?_
  rintro ⟨i, s⟩ e_ L ⟨Lo, Q, xo, out, rfl, hi, hslo, hxo, hmt⟩
  simp only at hi hslo hmt
  refine T.seq ?_
  refine T.seq ?_
  refine T.region ?_
  refine TL.cons rfl (V1.t (V1.move' (by (conv => lhs; whnf) <;> rfl)) ?_)
  refine TL.cons rfl (V1.t (V1.move' (by (conv => lhs; whnf) <;> rfl)) ?_)
  refine TL.cons rfl (V1.t (V1.lenSl ty_47 rfl) ?_)
  refine TL.cons rfl (T1.ltI_split rfl rfl (fun h3 => ?_) (fun h3 => ?_))
  ·
    obtain ⟨x, hx0⟩ : ∃ x, l[i]? = some x := ⟨_, List.getElem?_eq_getElem (by omega)⟩
    have hcx := hok x (List.mem_of_getElem? hx0)
    obtain ⟨bx, ox, cs_, rfl, hx, hrdx⟩ := hr.term ht hx0 P
    obtain ⟨kx, nx, asx⟩ := x
    obtain ⟨ax, cx, vsx, rfl, hrx, hlx, htx⟩ := hx.inv
    try simp only at *
    refine TL.nil ?_
    refine T.cond_t rfl ?_
    refine T.skip ?_
    refine T.seq ?_
    refine T.block ?_
    refine T.seq ?_
    refine T.region ?_
    refine TL.cons rfl (V1.t (V1.move' (by (conv => lhs; whnf) <;> rfl)) ?_)
    refine TL.cons rfl (V1.t (V1.move' (by (conv => lhs; whnf) <;> rfl)) ?_)
    refine TL.cons rfl (V1.t (V1.indexAddrS ty_47 sz_49 rfl rfl (by omega) (by omega)) ?_)
    refine TL.cons rfl (V1.t (V1.loadN (vs := [.int .i64 kx, .string (bstr nx), .slice ax asx.length cx]) one_49 sz_49 rfl (hrdx _ rfl rfl _ (by repeat (first | exact Inc.nil | assumption | exact Inc.refl | exact Inc.here | apply Inc.app | apply Inc.cons (by repeat (first | exact Find.here | assumption | apply Find.there | apply Find.far)) | apply Inc.skip1 | apply Inc.skip))) rfl) ?_)
    refine TL.cons rfl (T1.callC has_95 rfl rfl (RParts_any w0 Ps (.mk kx nx asx) _ hx hcx.2) (by repeat (first | exact Inc.nil | assumption | exact Inc.refl | exact Inc.here | apply Inc.app | apply Inc.cons (by repeat (first | exact Find.here | assumption | apply Find.there | apply Find.far)) | apply Inc.skip1 | apply Inc.skip)) (fun v_ Yp hY => ?_))
    obtain ⟨us, wp, hsp, hmp, hslp, htp⟩ := hY
    obtain ⟨ap, cp, rfl, hrp⟩ := hslp.tm htp
    have hlp := npart_of hsp.nodup hmp
    have hlp2 := npart_le (.mk kx nx asx)
    have hcx2 := hcx.2
    have hnl := nparts_le_of (l := l) (i := i) (x := .mk kx nx asx) hx0
    have hmt := hmt.parts (vs := us)
    refine TL.cons rfl (V1.t (V1.assign' (by (conv => lhs; whnf) <;> rfl)) ?_)
    refine TL.nil ?_
    refine T.seq ?_
    refine T.region ?_
    refine TL.cons rfl (V1.t (V1.assign' (by (conv => lhs; whnf) <;> rfl)) ?_)
    refine TL.nil ?_
    refine T.block ?_
    refine T.loopL (σ := Nat × Value) (l0 := [(0, _), (4, _), (5, _)]) (fun x => [(6, .int .i64 (x.1 : Nat)), (3, x.2)]) (fun x L => ∃ Lo Q xo out, L = Yp ++ (Lo ++ (Q ++ G)) ∧ x.1 ≤ us.length ∧ SlG (some 49) x.2 xo 3 Lo ∧ TmsR w0 (Q ++ Ps) out xo ∧ MatInv l i us x.1 out) (fun x => us.length - x.1) (0, s) (.cons rfl (.cons rfl .nil)) (.cons (by (conv => lhs; whnf) <;> rfl) (.cons (by (conv => lhs; whnf) <;> rfl) (.cons (by (conv => lhs; whnf) <;> rfl) .nil))) (by repeat (first | exact Take.nil | apply Take.one (by repeat (first | exact Pick.here | apply Pick.there | apply Pick.far)) | apply Take.seg (by repeat (first | exact PickS.last | exact PickS.one | exact PickS.here | exact PickS.nil | apply PickS.there | apply PickS.far)) | exact Take.last (by repeat (first | exact PickS.last | exact PickS.one | exact PickS.here | exact PickS.nil | apply PickS.there | apply PickS.far)))) (⟨Lo, Q, xo, out, rfl, Nat.zero_le _, hslo, hxo, hmt⟩) ?_
    rintro ⟨k, s⟩ e_ L ⟨Lo, Q, xo, out, rfl, hk, hslo, hxo, hmt⟩
    simp only at hk hslo hmt
    have hml := hmt.len
    refine T.seq ?_
    refine T.seq ?_
    refine T.region ?_
    refine TL.cons rfl (V1.t (V1.move' (by (conv => lhs; whnf) <;> rfl)) ?_)
    refine TL.cons rfl (V1.t (V1.move' (by (conv => lhs; whnf) <;> rfl)) ?_)
    refine TL.cons rfl (V1.t (V1.lenSl ty_47 rfl) ?_)
    refine TL.cons rfl (T1.ltI_split rfl rfl (fun h7 => ?_) (fun h7 => ?_))
    ·
      obtain ⟨p, hp0⟩ : ∃ p, us[k]? = some p := ⟨_, List.getElem?_eq_getElem (by omega)⟩
      have hshp := shp_sub hcx.1 ((hmp p).1 (List.mem_of_getElem? hp0))
      obtain ⟨bp, op_, cs_, rfl, hp, hrdp⟩ := hrp.term htp hp0 P
      obtain ⟨kp, np, asp⟩ := p
      obtain ⟨ap, cp, vsp, rfl, hrp_, hlp_, htp_⟩ := hp.inv
      try simp only at *
      refine TL.nil ?_
      refine T.cond_t rfl ?_
      refine T.skip ?_
      refine T.seq ?_
      refine T.block ?_
      refine T.seq ?_
      refine T.region ?_
      refine TL.cons rfl (V1.t (V1.move' (by (conv => lhs; whnf) <;> rfl)) ?_)
      refine TL.cons rfl (V1.t (V1.move' (by (conv => lhs; whnf) <;> rfl)) ?_)
      refine TL.cons rfl (V1.t (V1.move' (by (conv => lhs; whnf) <;> rfl)) ?_)
      refine TL.cons rfl (V1.t (V1.indexAddrS ty_47 sz_49 rfl rfl (by omega) (by omega)) ?_)
      refine TL.cons rfl (V1.t (V1.loadN (vs := [.int .i64 kp, .string (bstr np), .slice ap asp.length cp]) one_49 sz_49 rfl (hrdp _ rfl rfl _ (by repeat (first | exact Inc.nil | assumption | exact Inc.refl | exact Inc.here | apply Inc.app | apply Inc.cons (by repeat (first | exact Find.here | assumption | apply Find.there | apply Find.far)) | apply Inc.skip1 | apply Inc.skip))) rfl) ?_)
      refine TL.cons rfl (T1.callM (X := Lo) has_96 rfl rfl (with_any w0 (Q ++ Ps) hslo hxo (by omega) (.mk kp np asp) _ (hp.more (Inc.skip Inc.refl))) (by repeat (first | exact Take.nil | apply Take.one (by repeat (first | exact Pick.here | apply Pick.there | apply Pick.far)) | apply Take.seg (by repeat (first | exact PickS.last | exact PickS.one | exact PickS.here | exact PickS.nil | apply PickS.there | apply PickS.far)) | exact Take.last (by repeat (first | exact PickS.last | exact PickS.one | exact PickS.here | exact PickS.nil | apply PickS.there | apply PickS.far)))) (by repeat (first | exact Inc.nil | assumption | exact Inc.refl | exact Inc.here | apply Inc.app | apply Inc.cons (by repeat (first | exact Find.here | assumption | apply Find.there | apply Find.far)) | apply Inc.skip1 | apply Inc.skip)) (fun v1_ Lo1 hY => ?_))
      obtain ⟨xo1, hslo1, hxo1⟩ := hY
      have hl1 := withT_len out (.mk kp np asp)
      refine TL.cons rfl (V1.t (V1.assign' (by (conv => lhs; whnf) <;> rfl)) ?_)
      refine TL.nil ?_
      refine T.seq ?_
      refine T.region ?_
      refine TL.cons rfl (V1.t (V1.move' (by (conv => lhs; whnf) <;> rfl)) ?_)
      refine TL.cons rfl (V1.t (V1.move' (by (conv => lhs; whnf) <;> rfl)) ?_)
      refine TL.cons rfl (V1.t (V1.indexAddrS ty_47 sz_49 rfl rfl (by omega) (by omega)) ?_)
      refine TL.cons rfl (V1.t (V1.fieldAddr fl_49_0 rfl) ?_)
      refine TL.cons rfl (V1.t (V1.load1 (v := .int .i64 kp) one_3 rfl ((hrdp _ rfl rfl _ (by repeat (first | exact Inc.nil | assumption | exact Inc.refl | exact Inc.here | apply Inc.app | apply Inc.cons (by repeat (first | exact Find.here | assumption | apply Find.there | apply Find.far)) | apply Inc.skip1 | apply Inc.skip))) 0 _ rfl)) ?_)
      refine TL.cons rfl (T1.eqI_split rfl rfl (fun h10 => ?_) (fun h10 => ?_))
      ·
        subst h10
        obtain ⟨hlen2, rfl⟩ := headOk_two (shp_mk.1 hshp).1 (by decide)
        obtain ⟨a, b, rfl⟩ : ∃ a b, asp = [a, b] := by match asp, hlen2 with | [a, b], _ => exact ⟨a, b, rfl⟩
        obtain ⟨ba, oa, csa, rfl, ha, hrda⟩ := hrp_.term (i := 0) (x := a) htp_ rfl P
        obtain ⟨bb, ob, csb, hbb, hb, hrdb⟩ := hrp_.term (i := 1) (x := b) htp_ rfl P
        cases hbb
        obtain ⟨ka, na, asa⟩ := a
        obtain ⟨aa, ca, vsa, rfl, hra, hla, hta⟩ := ha.inv
        obtain ⟨kb, nb, asb⟩ := b
        obtain ⟨ab, cb, vsb, rfl, hrb, hlb, htb⟩ := hb.inv
        try simp only [List.length_cons, List.length_nil] at *
        refine TL.nil ?_
        refine T.cond_t rfl ?_
        refine T.seq ?_
        refine T.live (l := [(0, _), (3, _), (4, _), (5, _), (6, _)]) (.cons (by (conv => lhs; whnf) <;> rfl) (.cons (by (conv => lhs; whnf) <;> rfl) (.cons (by (conv => lhs; whnf) <;> rfl) (.cons (by (conv => lhs; whnf) <;> rfl) (.cons (by (conv => lhs; whnf) <;> rfl) .nil))))) (fun e_ => ?_)
        refine T.region ?_
        refine TL.cons rfl (V1.t (V1.move' (by (conv => lhs; whnf) <;> rfl)) ?_)
        refine TL.cons rfl (V1.t (V1.move' (by (conv => lhs; whnf) <;> rfl)) ?_)
        refine TL.cons rfl (V1.t (V1.move' (by (conv => lhs; whnf) <;> rfl)) ?_)
        refine TL.cons rfl (V1.t (V1.indexAddrS ty_47 sz_49 rfl rfl (by omega) (by omega)) ?_)
        refine TL.cons rfl (V1.t (V1.fieldAddr fl_49_2 rfl) ?_)
        refine TL.cons rfl (V1.t (V1.load1 (v := .slice (some ⟨ba, oa, none⟩) 2 cp) one_47 rfl ((hrdp _ rfl rfl _ (by repeat (first | exact Inc.nil | assumption | exact Inc.refl | exact Inc.here | apply Inc.app | apply Inc.cons (by repeat (first | exact Find.here | assumption | apply Find.there | apply Find.far)) | apply Inc.skip1 | apply Inc.skip))) 2 _ rfl)) ?_)
        refine TL.cons rfl (V1.t (V1.indexAddrS ty_47 sz_49 rfl rfl (by decide) (by decide)) ?_)
        refine TL.cons rfl (V1.t (V1.loadN (vs := [.int .i64 ka, .string (bstr na), .slice aa asa.length ca]) one_49 sz_49 rfl (hrda _ rfl rfl _ (by repeat (first | exact Inc.nil | assumption | exact Inc.refl | exact Inc.here | apply Inc.app | apply Inc.cons (by repeat (first | exact Find.here | assumption | apply Find.there | apply Find.far)) | apply Inc.skip1 | apply Inc.skip))) rfl) ?_)
        refine TL.cons rfl (T1.buildOne (cs := [.int .i64 ka, .string (bstr na), .slice aa asa.length ca]) ty_47 sz_49 zr_49 (by decide) rfl (by rfl) (fun b44 => ?_))
        refine TL.cons rfl (V1.t (V1.buildF pl_49 zr_49 (.one rfl (by (conv => lhs; whnf) <;> rfl) rfl (.one rfl (by (conv => lhs; whnf) <;> rfl) rfl .nil)) (by repeat (first | exact FillL.nil | exact SetN.done | apply SetN.here | apply SetN.there | apply FillL.cons))) ?_)
        refine TL.cons rfl (T1.callM (X := Lo1) has_96 rfl rfl (with_any w0 (⟨⟨b44, some 49⟩, 0, [.int .i64 ka, .string (bstr na), .slice aa asa.length ca], 3⟩ :: (Q ++ Ps)) hslo1 (hxo1.more (Inc.skip1 Inc.refl)) (by omega) (pub (.mk ka na asa)) _ (TmR.mkN (nm := []) (n := 1) rfl (RowR.own (List.mem_cons_self ..) rfl) (by decide) (TmsR.one (ha.more (Inc.skip1 (Inc.skip Inc.refl)))))) (by repeat (first | exact Take.nil | apply Take.one (by repeat (first | exact Pick.here | apply Pick.there | apply Pick.far)) | apply Take.seg (by repeat (first | exact PickS.last | exact PickS.one | exact PickS.here | exact PickS.nil | apply PickS.there | apply PickS.far)) | exact Take.last (by repeat (first | exact PickS.last | exact PickS.one | exact PickS.here | exact PickS.nil | apply PickS.there | apply PickS.far)))) (by repeat (first | exact Inc.nil | assumption | exact Inc.refl | exact Inc.here | apply Inc.app | apply Inc.cons (by repeat (first | exact Find.here | assumption | apply Find.there | apply Find.far)) | apply Inc.skip1 | apply Inc.skip)) (fun v2_ Lo2 hY => ?_))
        obtain ⟨xo2, hslo2, hxo2⟩ := hY
        have hl2 := withT_len (withT out (.mk 6 [] [.mk ka na asa, .mk kb nb asb])) (pub (.mk ka na asa))
        refine TL.cons rfl (V1.t (V1.assign' (by (conv => lhs; whnf) <;> rfl)) ?_)
        refine TL.nil ?_
        refine T.region ?_
        refine TL.cons rfl (V1.t (V1.move' (by (conv => lhs; whnf) <;> rfl)) ?_)
        refine TL.cons rfl (V1.t (V1.move' (by (conv => lhs; whnf) <;> rfl)) ?_)
        refine TL.cons rfl (V1.t (V1.move' (by (conv => lhs; whnf) <;> rfl)) ?_)
        refine TL.cons rfl (V1.t (V1.indexAddrS ty_47 sz_49 rfl rfl (by omega) (by omega)) ?_)
        refine TL.cons rfl (V1.t (V1.fieldAddr fl_49_2 rfl) ?_)
        refine TL.cons rfl (V1.t (V1.load1 (v := .slice (some ⟨ba, oa, none⟩) 2 cp) one_47 rfl ((hrdp _ rfl rfl _ (by repeat (first | exact Inc.nil | assumption | exact Inc.refl | exact Inc.here | apply Inc.app | apply Inc.cons (by repeat (first | exact Find.here | assumption | apply Find.there | apply Find.far)) | apply Inc.skip1 | apply Inc.skip))) 2 _ rfl)) ?_)
        refine TL.cons rfl (V1.t (V1.indexAddrS ty_47 sz_49 rfl rfl (by decide) (by decide)) ?_)
        refine TL.cons rfl (V1.t (V1.loadN (vs := [.int .i64 kb, .string (bstr nb), .slice ab asb.length cb]) one_49 sz_49 rfl (hrdb _ rfl rfl _ (by repeat (first | exact Inc.nil | assumption | exact Inc.refl | exact Inc.here | apply Inc.app | apply Inc.cons (by repeat (first | exact Find.here | assumption | apply Find.there | apply Find.far)) | apply Inc.skip1 | apply Inc.skip))) rfl) ?_)
        refine TL.cons rfl (T1.buildOne (cs := [.int .i64 kb, .string (bstr nb), .slice ab asb.length cb]) ty_47 sz_49 zr_49 (by decide) rfl (by rfl) (fun b55 => ?_))
        refine TL.cons rfl (V1.t (V1.buildF pl_49 zr_49 (.one rfl (by (conv => lhs; whnf) <;> rfl) rfl (.one rfl (by (conv => lhs; whnf) <;> rfl) rfl .nil)) (by repeat (first | exact FillL.nil | exact SetN.done | apply SetN.here | apply SetN.there | apply FillL.cons))) ?_)
        refine TL.cons rfl (T1.callM (X := Lo2) has_96 rfl rfl (with_any w0 (⟨⟨b55, some 49⟩, 0, [.int .i64 kb, .string (bstr nb), .slice ab asb.length cb], 3⟩ :: ⟨⟨b44, some 49⟩, 0, [.int .i64 ka, .string (bstr na), .slice aa asa.length ca], 3⟩ :: (Q ++ Ps)) hslo2 (hxo2.more (Inc.skip1 Inc.refl)) (by omega) (pub (.mk kb nb asb)) _ (TmR.mkN (nm := []) (n := 1) rfl (RowR.own (List.mem_cons_self ..) rfl) (by decide) (TmsR.one (hb.more (Inc.skip1 (Inc.skip1 (Inc.skip Inc.refl))))))) (by repeat (first | exact Take.nil | apply Take.one (by repeat (first | exact Pick.here | apply Pick.there | apply Pick.far)) | apply Take.seg (by repeat (first | exact PickS.last | exact PickS.one | exact PickS.here | exact PickS.nil | apply PickS.there | apply PickS.far)) | exact Take.last (by repeat (first | exact PickS.last | exact PickS.one | exact PickS.here | exact PickS.nil | apply PickS.there | apply PickS.far)))) (by repeat (first | exact Inc.nil | assumption | exact Inc.refl | exact Inc.here | apply Inc.app | apply Inc.cons (by repeat (first | exact Find.here | assumption | apply Find.there | apply Find.far)) | apply Inc.skip1 | apply Inc.skip)) (fun v3_ Lo3 hY => ?_))
        obtain ⟨xo3, hslo3, hxo3⟩ := hY
        refine TL.cons rfl (V1.t (V1.assign' (by (conv => lhs; whnf) <;> rfl)) ?_)
        refine TL.nil ?_
        refine T.live (l := [(0, _), (3, _), (4, _), (5, _), (6, _)]) (.cons (by (conv => lhs; whnf) <;> rfl) (.cons (by (conv => lhs; whnf) <;> rfl) (.cons (by (conv => lhs; whnf) <;> rfl) (.cons (by (conv => lhs; whnf) <;> rfl) (.cons (by (conv => lhs; whnf) <;> rfl) .nil))))) (fun e_ => ?_)
        refine T.region ?_
        refine TL.cons rfl (V1.t (V1.move' (by (conv => lhs; whnf) <;> rfl)) ?_)
        refine TL.cons rfl (V1.t (V1.add (c := ((k + 1 : Nat) : Int)) rfl rfl (by rw [wrap_i64 _ (by omega) (by omega)]; omega)) ?_)
        refine TL.cons rfl (V1.t (V1.assign' (by (conv => lhs; whnf) <;> rfl)) ?_)
        refine TL.nil ?_
        exact ⟨(k + 1, v3_), Yp ++ (Lo3 ++ (⟨⟨b55, some 49⟩, 0, [.int .i64 kb, .string (bstr nb), .slice ab asb.length cb], 3⟩ :: ⟨⟨b44, some 49⟩, 0, [.int .i64 ka, .string (bstr na), .slice aa asa.length ca], 3⟩ :: Q ++ G)), _, (by simp only; omega), (.cons rfl (.cons rfl .nil)), (.cons rfl (.cons rfl (.cons rfl .nil))), (by repeat (first | exact Take.nil | apply Take.one (by repeat (first | exact Pick.here | apply Pick.there | apply Pick.far)) | apply Take.seg (by repeat (first | exact PickS.last | exact PickS.one | exact PickS.here | exact PickS.nil | apply PickS.there | apply PickS.far)) | exact Take.last (by repeat (first | exact PickS.last | exact PickS.one | exact PickS.here | exact PickS.nil | apply PickS.there | apply PickS.far)))), ⟨Lo3, _, _, _, rfl, by simp only; omega, hslo3, hxo3, hmt.next6 hp0⟩⟩
      ·
        refine TL.nil ?_
        refine T.cond_f rfl ?_
        refine T.skip ?_
        refine T.live (l := [(0, _), (3, _), (4, _), (5, _), (6, _)]) (.cons (by (conv => lhs; whnf) <;> rfl) (.cons (by (conv => lhs; whnf) <;> rfl) (.cons (by (conv => lhs; whnf) <;> rfl) (.cons (by (conv => lhs; whnf) <;> rfl) (.cons (by (conv => lhs; whnf) <;> rfl) .nil))))) (fun e_ => ?_)
        refine T.region ?_
        refine TL.cons rfl (V1.t (V1.move' (by (conv => lhs; whnf) <;> rfl)) ?_)
        refine TL.cons rfl (V1.t (V1.add (c := ((k + 1 : Nat) : Int)) rfl rfl (by rw [wrap_i64 _ (by omega) (by omega)]; omega)) ?_)
        refine TL.cons rfl (V1.t (V1.assign' (by (conv => lhs; whnf) <;> rfl)) ?_)
        refine TL.nil ?_
        exact ⟨(k + 1, v1_), Yp ++ (Lo1 ++ (Q ++ G)), _, (by simp only; omega), (.cons rfl (.cons rfl .nil)), (.cons rfl (.cons rfl (.cons rfl .nil))), (by repeat (first | exact Take.nil | apply Take.one (by repeat (first | exact Pick.here | apply Pick.there | apply Pick.far)) | apply Take.seg (by repeat (first | exact PickS.last | exact PickS.one | exact PickS.here | exact PickS.nil | apply PickS.there | apply PickS.far)) | exact Take.last (by repeat (first | exact PickS.last | exact PickS.one | exact PickS.here | exact PickS.nil | apply PickS.there | apply PickS.far)))), ⟨Lo1, Q, _, _, rfl, by simp only; omega, hslo1, hxo1, hmt.next hp0 h10⟩⟩
    ·
      obtain rfl : k = us.length := by omega
      refine TL.nil ?_
      refine T.cond_f rfl ?_
      refine T.exit ?_
      refine T.region ?_
      refine TL.cons rfl (V1.t (V1.move' (by (conv => lhs; whnf) <;> rfl)) ?_)
      refine TL.cons rfl (V1.t (V1.add (c := ((i + 1 : Nat) : Int)) rfl rfl (by rw [wrap_i64 _ (by omega) (by omega)]; omega)) ?_)
      refine TL.cons rfl (V1.t (V1.assign' (by (conv => lhs; whnf) <;> rfl)) ?_)
      refine TL.nil ?_
      exact ⟨(i + 1, s), Lo ++ (Q ++ G), _, (by simp only; omega), (.cons rfl (.cons rfl .nil)), (.cons rfl .nil), (by repeat (first | exact Take.nil | apply Take.one (by repeat (first | exact Pick.here | apply Pick.there | apply Pick.far)) | apply Take.seg (by repeat (first | exact PickS.last | exact PickS.one | exact PickS.here | exact PickS.nil | apply PickS.there | apply PickS.far)) | exact Take.last (by repeat (first | exact PickS.last | exact PickS.one | exact PickS.here | exact PickS.nil | apply PickS.there | apply PickS.far)))), ⟨Lo, Q, xo, out, rfl, by simp only; omega, hslo, hxo, (hmt.close hx0 hsp.nodup hmp).parts⟩⟩
  ·
    obtain rfl : i = l.length := by omega
    refine TL.nil ?_
    refine T.cond_f rfl ?_
    refine T.exit ?_
    refine T.seq ?_
    refine T.region ?_
    refine TL.cons rfl (V1.t (V1.move' (by (conv => lhs; whnf) <;> rfl)) ?_)
    refine TL.cons rfl (V1.t (V1.assign' (by (conv => lhs; whnf) <;> rfl)) ?_)
    refine TL.nil ?_
    refine T.ret ?_
    exact ⟨_, Lo ++ (Q ++ G), _, .cons (.tmp (by (conv => lhs; whnf) <;> rfl)) .nil, (by repeat (first | exact Take.nil | apply Take.one (by repeat (first | exact Pick.here | apply Pick.there | apply Pick.far)) | apply Take.seg (by repeat (first | exact PickS.last | exact PickS.one | exact PickS.here | exact PickS.nil | apply PickS.there | apply PickS.far)) | exact Take.last (by repeat (first | exact PickS.last | exact PickS.one | exact PickS.here | exact PickS.nil | apply PickS.there | apply PickS.far)))), Lo ++ Q, by rw [List.append_assoc], Lo, Q, out, xo, rfl, hslo, hxo, hmt⟩

end Go.Proofs.YtlpkcbkflfbclaaDoor.S
