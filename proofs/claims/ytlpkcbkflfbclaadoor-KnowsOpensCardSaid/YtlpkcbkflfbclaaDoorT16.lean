/- An atom that stands nowhere is made of nothing. -/
import Derived.Test.YtlpkcbkflfbclaaDoorT15
import Derived.Test.YtlpkcbkflfbclaaDoorTmSpec6
namespace Go.Proofs.YtlpkcbkflfbclaaDoor.S
open Go.RowKit

set_option maxRecDepth 100000 in
set_option maxHeartbeats 8000000 in
theorem KnowsFresh_any (w0 : World) {ts : List Tm} {a : Option Addr} {c : Nat} {vs : List Value} (hr : RowR w0 [] 3 (.slice a ts.length c) ts.length vs) (ht : TmsR w0 [] ts vs) (hb : ts.length * 48 ≤ 140737488351232) : FnV P 9 [.slice a ts.length c] w0 [] (fun v => v = .bool true) := by
  refine FnV.of 75 [.tmp 2] Go.Proofs.Tryd.func9 rfl rfl rfl rfl (fun G hG => ?_)
  refine T.seq ?_
  refine T.region ?_
  refine TL.cons rfl (V1.t (V1.assign' (by (conv => lhs; whnf) <;> rfl)) ?_)
  refine TL.nil ?_
  refine T.seq ?_
  refine T.seq ?_
  refine T.region ?_
  refine TL.cons rfl (T1.callV has_24 rfl rfl (opens_any w0) (by repeat (first | exact Inc.nil | assumption | exact Inc.refl | exact Inc.here | apply Inc.app | apply Inc.cons (by repeat (first | exact Find.here | assumption | apply Find.there | apply Find.far)) | apply Inc.skip1 | apply Inc.skip)) (fun v_ hv => ?_))
  obtain rfl := hv
  refine TL.cons rfl (V1.t (V1.not rfl rfl) ?_)
  refine TL.nil ?_
  refine T.cond_f rfl ?_
  refine T.skip ?_
  refine T.seq ?_
  refine T.region ?_
  refine TL.cons rfl (T1.callV has_12 rfl rfl (Of_any w0 [] frN) (by repeat (first | exact Inc.nil | assumption | exact Inc.refl | exact Inc.here | apply Inc.app | apply Inc.cons (by repeat (first | exact Find.here | assumption | apply Find.there | apply Find.far)) | apply Inc.skip1 | apply Inc.skip)) (fun v_ hv => ?_))
  obtain rfl := hv
  refine TL.cons rfl (T1.allocN 3 zr_26 rfl (fun b3 => ?_))
  refine TL.cons rfl (T1.storeN rfl rfl sz_26 (ones rfl) (by repeat (first | exact Sub.one | apply Sub.there | apply Sub.far)) (by rfl) (by rfl) ?_)
  refine TL.nil ?_
  refine T.seq ?_
  refine T.seq ?_
  refine T.region ?_
  refine TL.cons rfl (V1.t (V1.move' (by (conv => lhs; whnf) <;> rfl)) ?_)
  refine TL.cons rfl (V1.t (V1.loadN one_26 sz_26 rfl (RdN.whole (by repeat (first | exact Find.here | assumption | apply Find.there | apply Find.far))) (by rfl)) ?_)
  refine TL.cons rfl (T1.callV has_27 rfl rfl (few_any w0 [] rfl hr ht (t := fr) TmR.atom (by omega)) (by repeat (first | exact Inc.nil | assumption | exact Inc.refl | exact Inc.here | apply Inc.app | apply Inc.cons (by repeat (first | exact Find.here | assumption | apply Find.there | apply Find.far)) | apply Inc.skip1 | apply Inc.skip)) (fun v_ hv => ?_))
  obtain ⟨r, rfl, hfew⟩ := hv
  rcases Bool.eq_false_or_eq_true r with hrb | hrb <;> subst hrb
  ·
    obtain ⟨hcs, hnp⟩ := hfew.1 rfl
    have hcts : ∀ t ∈ ts, chk t = 0 := fun t ht => hcs t (List.mem_append_left _ ht)
    rw [nparts_app] at hnp
    refine TL.cons rfl (V1.t (V1.not rfl rfl) ?_)
    refine TL.nil ?_
    refine T.cond_f rfl ?_
    refine T.skip ?_
    refine T.seq ?_
    refine T.seq ?_
    refine T.region ?_
    refine TL.cons rfl (V1.t (V1.move' (by (conv => lhs; whnf) <;> rfl)) ?_)
    refine TL.cons rfl (V1.t (V1.lenSl ty_23 rfl) ?_)
    refine TL.cons rfl (V1.t (V1.move' (by (conv => lhs; whnf) <;> rfl)) ?_)
    refine TL.nil ?_
    refine T.block ?_
    refine T.loopL (σ := Nat) (l0 := [(0, _), (3, _), (18, _), (19, _)]) (fun x => [(20, .int .i64 (x : Nat))]) (fun i L => L = ⟨b3, 0, [.int .i64 1, .string (bstr frN), .slice none 0 0], 3⟩ :: G ∧ i ≤ ts.length ∧ ∀ y ∈ ts.take i, fr ∉ subs y) (fun i => ts.length - i) 0 (.cons rfl .nil) (.cons (by (conv => lhs; whnf) <;> rfl) (.cons (by (conv => lhs; whnf) <;> rfl) (.cons (by (conv => lhs; whnf) <;> rfl) (.cons (by (conv => lhs; whnf) <;> rfl) .nil)))) (by repeat (first | exact Take.nil | apply Take.one (by repeat (first | exact Pick.here | apply Pick.there | apply Pick.far)) | apply Take.seg (by repeat (first | exact PickS.last | exact PickS.one | exact PickS.here | exact PickS.nil | apply PickS.there | apply PickS.far)) | exact Take.last (by repeat (first | exact PickS.last | exact PickS.one | exact PickS.here | exact PickS.nil | apply PickS.there | apply PickS.far)))) (⟨rfl, Nat.zero_le _, by simp⟩) ?_
    rintro i e_ L ⟨rfl, hi, hfs⟩
    refine T.seq ?_
    refine T.region ?_
    refine TL.cons rfl (T1.ltI_split rfl rfl (fun h9 => ?_) (fun h9 => ?_))
    ·
      obtain ⟨x, hx0⟩ : ∃ x, ts[i]? = some x := ⟨_, List.getElem?_eq_getElem (by omega)⟩
      obtain ⟨bx, ox, cs_, rfl, hx, hrdx⟩ := hr.term ht hx0 P
      obtain ⟨kx, nx, asx⟩ := x
      obtain ⟨ax, cx, vsx, rfl, hrx, hlx, htx⟩ := hx.inv
      try simp only at *
      refine TL.nil ?_
      refine T.seq ?_
      refine T.cond_t rfl ?_
      refine T.skip ?_
      refine T.seq ?_
      refine T.block ?_
      refine T.seq ?_
      refine T.region ?_
      refine TL.cons rfl (V1.t (V1.indexAddrS ty_23 sz_26 rfl rfl (by omega) (by omega)) ?_)
      refine TL.cons rfl (V1.t (V1.loadN (vs := [.int .i64 kx, .string (bstr nx), .slice ax asx.length cx]) one_26 sz_26 rfl (hrdx _ rfl rfl _ (by repeat (first | exact Inc.nil | assumption | exact Inc.refl | exact Inc.here | apply Inc.app | apply Inc.cons (by repeat (first | exact Find.here | assumption | apply Find.there | apply Find.far)) | apply Inc.skip1 | apply Inc.skip))) rfl) ?_)
      refine TL.cons rfl (T1.allocN 3 zr_26 rfl (fun b5 => ?_))
      refine TL.cons rfl (T1.storeN rfl rfl sz_26 (ones rfl) (by repeat (first | exact Sub.one | apply Sub.there | apply Sub.far)) (by rfl) (by rfl) ?_)
      refine TL.nil ?_
      refine T.seq ?_
      refine T.region ?_
      refine TL.cons rfl (V1.t (V1.loadN one_26 sz_26 rfl (RdN.whole (by repeat (first | exact Find.here | assumption | apply Find.there | apply Find.far))) (by rfl)) ?_)
      refine TL.cons rfl (T1.callC has_18 rfl rfl (Parts_any w0 [] (.mk kx nx asx) _ hx (by have := (chk_iff.1 (hcs _ (List.mem_append_left _ (List.mem_of_getElem? hx0)))).1; omega)) (by repeat (first | exact Inc.nil | assumption | exact Inc.refl | exact Inc.here | apply Inc.app | apply Inc.cons (by repeat (first | exact Find.here | assumption | apply Find.there | apply Find.far)) | apply Inc.skip1 | apply Inc.skip)) (fun v_ Yp hY => ?_))
      obtain ⟨up, wp, hsp, hmp, hslp, htp⟩ := hY
      obtain ⟨ap, cp, rfl, hrp⟩ := SlG.tm hslp htp
      have hlp := npart_of hsp.nodup hmp
      have hlp2 := npart_le (.mk kx nx asx)
      have hlp3 := (chk_iff.1 (hcs _ (List.mem_append_left _ (List.mem_of_getElem? hx0)))).1
      refine TL.cons rfl (V1.t (V1.lenSl ty_23 rfl) ?_)
      refine TL.cons rfl (V1.t (V1.move' (by (conv => lhs; whnf) <;> rfl)) ?_)
      refine TL.nil ?_
      refine T.block ?_
      refine T.loopL (σ := Nat) (l0 := [(0, _), (3, _), (18, _), (19, _), (20, _), (25, _), (26, _)]) (fun x => [(27, .int .i64 (x : Nat))]) (fun j L => L = Yp ++ (⟨b3, 0, [.int .i64 1, .string (bstr frN), .slice none 0 0], 3⟩ :: G) ∧ j ≤ up.length ∧ ∀ y ∈ up.take j, y ≠ fr) (fun j => up.length - j) 0 (.cons rfl .nil) (.cons (by (conv => lhs; whnf) <;> rfl) (.cons (by (conv => lhs; whnf) <;> rfl) (.cons (by (conv => lhs; whnf) <;> rfl) (.cons (by (conv => lhs; whnf) <;> rfl) (.cons (by (conv => lhs; whnf) <;> rfl) (.cons (by (conv => lhs; whnf) <;> rfl) (.cons (by (conv => lhs; whnf) <;> rfl) .nil))))))) (by repeat (first | exact Take.nil | apply Take.one (by repeat (first | exact Pick.here | apply Pick.there | apply Pick.far)) | apply Take.seg (by repeat (first | exact PickS.last | exact PickS.one | exact PickS.here | exact PickS.nil | apply PickS.there | apply PickS.far)) | exact Take.last (by repeat (first | exact PickS.last | exact PickS.one | exact PickS.here | exact PickS.nil | apply PickS.there | apply PickS.far)))) (⟨rfl, Nat.zero_le _, by simp⟩) ?_
      rintro j e_ L ⟨rfl, hj, hjs⟩
      refine T.seq ?_
      refine T.region ?_
      refine TL.cons rfl (T1.ltI_split rfl rfl (fun h10 => ?_) (fun h10 => ?_))
      ·
        obtain ⟨q, hq0⟩ : ∃ q, up[j]? = some q := ⟨_, List.getElem?_eq_getElem (by omega)⟩
        obtain ⟨bq, oq, cs_, rfl, hq, hrdq⟩ := hrp.term htp hq0 P
        obtain ⟨kq, nq, asq⟩ := q
        obtain ⟨aq, cq, vsq, rfl, hrq, hlq, htq⟩ := hq.inv
        try simp only at *
        refine TL.nil ?_
        refine T.seq ?_
        refine T.cond_t rfl ?_
        refine T.skip ?_
        refine T.seq ?_
        refine T.block ?_
        refine T.seq ?_
        refine T.region ?_
        refine TL.cons rfl (V1.t (V1.indexAddrS ty_23 sz_26 rfl rfl (by omega) (by omega)) ?_)
        refine TL.cons rfl (V1.t (V1.loadN (vs := [.int .i64 kq, .string (bstr nq), .slice aq asq.length cq]) one_26 sz_26 rfl (hrdq _ rfl rfl _ (by repeat (first | exact Inc.nil | assumption | exact Inc.refl | exact Inc.here | apply Inc.app | apply Inc.cons (by repeat (first | exact Find.here | assumption | apply Find.there | apply Find.far)) | apply Inc.skip1 | apply Inc.skip))) rfl) ?_)
        refine TL.cons rfl (T1.allocN 3 zr_26 rfl (fun b7 => ?_))
        refine TL.cons rfl (T1.storeN rfl rfl sz_26 (ones rfl) (by repeat (first | exact Sub.one | apply Sub.there | apply Sub.far)) (by rfl) (by rfl) ?_)
        refine TL.nil ?_
        refine T.seq ?_
        refine T.region ?_
        refine TL.cons rfl (V1.t (V1.loadN one_26 sz_26 rfl (RdN.whole (by repeat (first | exact Find.here | assumption | apply Find.there | apply Find.far))) (by rfl)) ?_)
        refine TL.cons rfl (V1.t (V1.loadN one_26 sz_26 rfl (RdN.whole (by repeat (first | exact Find.here | assumption | apply Find.there | apply Find.far))) (by rfl)) ?_)
        refine TL.cons rfl (T1.callV has_15 rfl rfl (Compare_any w0 (.mk kq nq asq) fr [] _ _ hq TmR.atom) (by repeat (first | exact Inc.nil | assumption | exact Inc.refl | exact Inc.here | apply Inc.app | apply Inc.cons (by repeat (first | exact Find.here | assumption | apply Find.there | apply Find.far)) | apply Inc.skip1 | apply Inc.skip)) (fun v_ hv => ?_))
        obtain rfl := hv
        refine TL.cons rfl (T1.eqI_split rfl rfl (fun h12 => ?_) (fun h12 => ?_))
        ·
          refine TL.nil ?_
          refine T.cond_t rfl ?_
          refine T.seq ?_
          refine T.region ?_
          refine TL.cons rfl (V1.t (V1.assign' (by (conv => lhs; whnf) <;> rfl)) ?_)
          refine TL.nil ?_
          refine T.ret ?_
          exact ⟨_, G, _, .cons (.tmp (by (conv => lhs; whnf) <;> rfl)) .nil, (by repeat (first | exact Take.nil | apply Take.one (by repeat (first | exact Pick.here | apply Pick.there | apply Pick.far)) | apply Take.seg (by repeat (first | exact PickS.last | exact PickS.one | exact PickS.here | exact PickS.nil | apply PickS.there | apply PickS.far)) | exact Take.last (by repeat (first | exact PickS.last | exact PickS.one | exact PickS.here | exact PickS.nil | apply PickS.there | apply PickS.far)))), rfl, rfl⟩
        ·
          refine TL.nil ?_
          refine T.cond_f rfl ?_
          refine T.skip ?_
          refine T.region ?_
          refine TL.cons rfl (V1.t (V1.add (c := ((j + 1 : Nat) : Int)) rfl rfl (by rw [wrap_i64 _ (by omega) (by omega)]; omega)) ?_)
          refine TL.cons rfl (V1.t (V1.move' (by (conv => lhs; whnf) <;> rfl)) ?_)
          refine TL.nil ?_
          exact ⟨j + 1, Yp ++ (⟨b3, 0, [.int .i64 1, .string (bstr frN), .slice none 0 0], 3⟩ :: G), _, (by simp only; omega), (.cons rfl .nil), (.cons rfl (.cons rfl (.cons rfl (.cons rfl (.cons rfl (.cons rfl (.cons rfl .nil))))))), (by repeat (first | exact Take.nil | apply Take.one (by repeat (first | exact Pick.here | apply Pick.there | apply Pick.far)) | apply Take.seg (by repeat (first | exact PickS.last | exact PickS.one | exact PickS.here | exact PickS.nil | apply PickS.there | apply PickS.far)) | exact Take.last (by repeat (first | exact PickS.last | exact PickS.one | exact PickS.here | exact PickS.nil | apply PickS.there | apply PickS.far)))), ⟨rfl, by omega, take_all hq0 hjs (fun e => h12 (by rw [e]; exact cmpT_self _))⟩⟩
      ·
        obtain rfl : j = up.length := by omega
        rw [List.take_length] at hjs
        have hfx : fr ∉ subs (.mk kx nx asx) := fun h => hjs _ ((hmp _).2 h) rfl
        refine TL.nil ?_
        refine T.seq ?_
        refine T.cond_f rfl ?_
        refine T.exit ?_
        refine T.region ?_
        refine TL.cons rfl (V1.t (V1.add (c := ((i + 1 : Nat) : Int)) rfl rfl (by rw [wrap_i64 _ (by omega) (by omega)]; omega)) ?_)
        refine TL.cons rfl (V1.t (V1.move' (by (conv => lhs; whnf) <;> rfl)) ?_)
        refine TL.nil ?_
        exact ⟨i + 1, ⟨b3, 0, [.int .i64 1, .string (bstr frN), .slice none 0 0], 3⟩ :: G, _, (by simp only; omega), (.cons rfl .nil), (.cons rfl (.cons rfl (.cons rfl (.cons rfl .nil)))), (by repeat (first | exact Take.nil | apply Take.one (by repeat (first | exact Pick.here | apply Pick.there | apply Pick.far)) | apply Take.seg (by repeat (first | exact PickS.last | exact PickS.one | exact PickS.here | exact PickS.nil | apply PickS.there | apply PickS.far)) | exact Take.last (by repeat (first | exact PickS.last | exact PickS.one | exact PickS.here | exact PickS.nil | apply PickS.there | apply PickS.far)))), ⟨rfl, by omega, take_all hx0 hfs hfx⟩⟩
    ·
      obtain rfl : i = ts.length := by omega
      rw [List.take_length] at hfs
      refine TL.nil ?_
      refine T.seq ?_
      refine T.cond_f rfl ?_
      refine T.exit ?_
      refine T.seq ?_
      refine T.region ?_
      refine TL.cons rfl (V1.t (V1.move' (by (conv => lhs; whnf) <;> rfl)) ?_)
      refine TL.cons rfl (T1.callC has_19 rfl rfl (New_kn w0 [] rfl hr ht hcts (by omega)) (by repeat (first | exact Inc.nil | assumption | exact Inc.refl | exact Inc.here | apply Inc.app | apply Inc.cons (by repeat (first | exact Find.here | assumption | apply Find.there | apply Find.far)) | apply Inc.skip1 | apply Inc.skip)) (fun v_ Yk hY => ?_))
      obtain ⟨kb, l, rfl, hkn, hk⟩ := hY
      refine TL.cons rfl (V1.t (V1.move' (by (conv => lhs; whnf) <;> rfl)) ?_)
      refine TL.cons rfl (V1.t (V1.extract rfl (by rfl)) ?_)
      refine TL.cons rfl (V1.t (V1.extract rfl (by rfl)) ?_)
      refine TL.cons rfl (V1.t (V1.assign' (by (conv => lhs; whnf) <;> rfl)) ?_)
      refine TL.cons rfl (V1.t (V1.assign' (by (conv => lhs; whnf) <;> rfl)) ?_)
      refine TL.nil ?_
      refine T.seq ?_
      refine T.seq ?_
      refine T.region ?_
      refine TL.cons rfl (V1.t (V1.move' (by (conv => lhs; whnf) <;> rfl)) ?_)
      refine TL.cons rfl (V1.t (V1.neI (r := false) rfl rfl (by decide)) ?_)
      refine TL.cons rfl (V1.t (V1.move' (by (conv => lhs; whnf) <;> rfl)) ?_)
      refine TL.cons rfl (V1.t (V1.move' (by (conv => lhs; whnf) <;> rfl)) ?_)
      refine TL.cons rfl (V1.t (V1.eqNil ty_35 rfl rfl) ?_)
      refine TL.cons rfl (V1.t (V1.pick rfl (by (conv => lhs; whnf) <;> rfl)) ?_)
      refine TL.cons rfl (V1.t (V1.move' (by (conv => lhs; whnf) <;> rfl)) ?_)
      refine TL.cons rfl (V1.t (V1.move' (by (conv => lhs; whnf) <;> rfl)) ?_)
      refine TL.cons rfl (V1.t (V1.loadN one_26 sz_26 rfl (RdN.whole (by repeat (first | exact Find.here | assumption | apply Find.there | apply Find.far))) (by rfl)) ?_)
      refine TL.cons rfl (T1.callV has_20 rfl rfl (Makes_k hkn hk [] (ct := [.int .i64 1, .string (bstr frN), .slice none 0 0]) TmR.atom) (by repeat (first | exact Inc.nil | assumption | exact Inc.refl | exact Inc.here | apply Inc.app | apply Inc.cons (by repeat (first | exact Find.here | assumption | apply Find.there | apply Find.far)) | apply Inc.skip1 | apply Inc.skip)) (fun v_ hv => ?_))
      obtain ⟨r, rfl, hr_⟩ := hv
      obtain rfl : r = false := (by cases r; rfl; exact absurd (hr_.1 rfl) (fr_not hk hcts hfs))
      refine TL.cons rfl (V1.t (V1.pick rfl (by (conv => lhs; whnf) <;> rfl)) ?_)
      refine TL.nil ?_
      refine T.cond_f rfl ?_
      refine T.skip ?_
      refine T.seq ?_
      refine T.live (l := [(3, _), (8, _)]) (.cons (by (conv => lhs; whnf) <;> rfl) (.cons (by (conv => lhs; whnf) <;> rfl) .nil)) (fun e_ => ?_)
      refine T.region ?_
      refine TL.cons rfl (V1.t (V1.loadN one_26 sz_26 rfl (RdN.whole (by repeat (first | exact Find.here | assumption | apply Find.there | apply Find.far))) (by rfl)) ?_)
      refine TL.cons rfl (T1.buildOne ty_23 sz_26 zr_26 (by decide) (by (conv => lhs; whnf) <;> rfl) (by rfl) (fun b54 => ?_))
      refine TL.cons rfl (V1.t (V1.buildF pl_26 zr_26 (.one rfl (by (conv => lhs; whnf) <;> rfl) rfl (.one rfl (by (conv => lhs; whnf) <;> rfl) rfl .nil)) (by repeat (first | exact FillL.nil | exact SetN.done | apply SetN.here | apply SetN.there | apply FillL.cons))) ?_)
      refine TL.cons rfl (T1.allocN 3 zr_26 rfl (fun b10 => ?_))
      refine TL.cons rfl (T1.storeN rfl rfl sz_26 (ones rfl) (by repeat (first | exact Sub.one | apply Sub.there | apply Sub.far)) (by rfl) (by rfl) ?_)
      have hpub : TmR w0 [⟨⟨b54, some 26⟩, 0, [.int .i64 1, .string (bstr frN), .slice none 0 0], 3⟩] (.mk 5 [] [fr]) [.int .i64 5, .string (bstr []), .slice (some ⟨b54, 0, none⟩) 1 1] := TmR.mkN (nm := []) (n := 1) rfl (RowR.own (List.mem_cons_self ..) rfl) (by decide) (TmsR.one TmR.atom)
      refine TL.nil ?_
      refine T.seq ?_
      refine T.seq ?_
      refine T.region ?_
      refine TL.cons rfl (V1.t (V1.move' (by (conv => lhs; whnf) <;> rfl)) ?_)
      refine TL.cons rfl (V1.t (V1.loadN one_26 sz_26 rfl (RdN.whole (by repeat (first | exact Find.here | assumption | apply Find.there | apply Find.far))) (by rfl)) ?_)
      refine TL.cons rfl (T1.callV has_20 rfl rfl (Makes_k hkn hk _ (ct := [.int .i64 5, .string (bstr []), .slice (some ⟨b54, 0, none⟩) 1 1]) hpub) (by repeat (first | exact Inc.nil | assumption | exact Inc.refl | exact Inc.here | apply Inc.app | apply Inc.cons (by repeat (first | exact Find.here | assumption | apply Find.there | apply Find.far)) | apply Inc.skip1 | apply Inc.skip)) (fun v_ hv => ?_))
      obtain ⟨r, rfl, hr_⟩ := hv
      obtain rfl : r = false := (by cases r; rfl; exact absurd (hr_.1 rfl) (pub_not hk hcts hfs))
      refine TL.cons rfl (V1.t (V1.move' (by (conv => lhs; whnf) <;> rfl)) ?_)
      refine TL.cons rfl (V1.t (V1.move' (by (conv => lhs; whnf) <;> rfl)) ?_)
      refine TL.cons rfl (V1.t (V1.loadN one_26 sz_26 rfl (RdN.whole (by repeat (first | exact Find.here | assumption | apply Find.there | apply Find.far))) (by rfl)) ?_)
      refine TL.cons rfl (T1.buildOne ty_23 sz_26 zr_26 (by decide) (by (conv => lhs; whnf) <;> rfl) (by rfl) (fun b62 => ?_))
      refine TL.cons rfl (T1.callM (X := Yk) has_26 rfl rfl (Learn_k hkn hk [⟨⟨b62, some 26⟩, 0, [.int .i64 5, .string (bstr []), .slice (some ⟨b54, 0, none⟩) 1 1], 3⟩, ⟨⟨b54, some 26⟩, 0, [.int .i64 1, .string (bstr frN), .slice none 0 0], 3⟩] (us := [(.mk 5 [] [fr])]) rfl (RowR.own (List.mem_cons_self ..) rfl) (TmsR.one (hpub.more (Inc.skip1 Inc.refl))) (chk_of hcts (by intro t ht; rw [List.mem_singleton] at ht; subst ht; exact fr_chk.2.1)) (by rw [nparts_app, nparts_cons, nparts_nil]; have := fr_chk.2.2.1; omega)) (by repeat (first | exact Take.nil | apply Take.one (by repeat (first | exact Pick.here | apply Pick.there | apply Pick.far)) | apply Take.seg (by repeat (first | exact PickS.last | exact PickS.one | exact PickS.here | exact PickS.nil | apply PickS.there | apply PickS.far)) | exact Take.last (by repeat (first | exact PickS.last | exact PickS.one | exact PickS.here | exact PickS.nil | apply PickS.there | apply PickS.far)))) (by repeat (first | exact Inc.nil | assumption | exact Inc.refl | exact Inc.here | apply Inc.app | apply Inc.cons (by repeat (first | exact Find.here | assumption | apply Find.there | apply Find.far)) | apply Inc.skip1 | apply Inc.skip)) (fun v_ Y2 hY => ?_))
      obtain ⟨l2, rfl, hkn2, hk2⟩ := hY
      refine TL.cons rfl (V1.t (V1.neI (r := false) rfl rfl (by decide)) ?_)
      refine TL.cons rfl (V1.t (V1.pick rfl (by (conv => lhs; whnf) <;> rfl)) ?_)
      refine TL.nil ?_
      refine T.cond_f rfl ?_
      refine T.skip ?_
      refine T.seq ?_
      refine T.live (l := [(3, _), (8, _), (10, _)]) (.cons (by (conv => lhs; whnf) <;> rfl) (.cons (by (conv => lhs; whnf) <;> rfl) (.cons (by (conv => lhs; whnf) <;> rfl) .nil))) (fun e_ => ?_)
      refine T.region ?_
      refine TL.cons rfl (V1.t (V1.move' (by (conv => lhs; whnf) <;> rfl)) ?_)
      refine TL.cons rfl (V1.t (V1.loadN one_26 sz_26 rfl (RdN.whole (by repeat (first | exact Find.here | assumption | apply Find.there | apply Find.far))) (by rfl)) ?_)
      refine TL.cons rfl (T1.callV has_20 rfl rfl (Makes_k hkn2 hk2 [⟨⟨b54, some 26⟩, 0, [.int .i64 1, .string (bstr frN), .slice none 0 0], 3⟩] (ct := [.int .i64 5, .string (bstr []), .slice (some ⟨b54, 0, none⟩) 1 1]) hpub) (by repeat (first | exact Inc.nil | assumption | exact Inc.refl | exact Inc.here | apply Inc.app | apply Inc.cons (by repeat (first | exact Find.here | assumption | apply Find.there | apply Find.far)) | apply Inc.skip1 | apply Inc.skip)) (fun v_ hv => ?_))
      obtain ⟨r, rfl, hr_⟩ := hv
      obtain rfl : r = true := hr_.2 (Ans.known (by simp) fr_chk.2.1)
      refine TL.cons rfl (V1.t (V1.move' (by (conv => lhs; whnf) <;> rfl)) ?_)
      refine TL.cons rfl (V1.t (V1.move' (by (conv => lhs; whnf) <;> rfl)) ?_)
      refine TL.cons rfl (V1.t (V1.loadN one_26 sz_26 rfl (RdN.whole (by repeat (first | exact Find.here | assumption | apply Find.there | apply Find.far))) (by rfl)) ?_)
      refine TL.cons rfl (T1.callV has_20 rfl rfl (Makes_k hkn2 hk2 [] (ct := [.int .i64 1, .string (bstr frN), .slice none 0 0]) TmR.atom) (by repeat (first | exact Inc.nil | assumption | exact Inc.refl | exact Inc.here | apply Inc.app | apply Inc.cons (by repeat (first | exact Find.here | assumption | apply Find.there | apply Find.far)) | apply Inc.skip1 | apply Inc.skip)) (fun v_ hv => ?_))
      obtain ⟨r, rfl, hr_⟩ := hv
      obtain rfl : r = false := (by cases r; rfl; exact absurd (hr_.1 rfl) (fr_still hk hcts hfs))
      refine TL.cons rfl (V1.t (V1.not rfl rfl) ?_)
      refine TL.cons rfl (V1.t (V1.pick rfl (by (conv => lhs; whnf) <;> rfl)) ?_)
      refine TL.cons rfl (V1.t (V1.assign' (by (conv => lhs; whnf) <;> rfl)) ?_)
      refine TL.nil ?_
      refine T.ret ?_
      exact ⟨_, G, _, .cons (.tmp (by (conv => lhs; whnf) <;> rfl)) .nil, (by repeat (first | exact Take.nil | apply Take.one (by repeat (first | exact Pick.here | apply Pick.there | apply Pick.far)) | apply Take.seg (by repeat (first | exact PickS.last | exact PickS.one | exact PickS.here | exact PickS.nil | apply PickS.there | apply PickS.far)) | exact Take.last (by repeat (first | exact PickS.last | exact PickS.one | exact PickS.here | exact PickS.nil | apply PickS.there | apply PickS.far)))), rfl, rfl⟩
  ·
    refine TL.cons rfl (V1.t (V1.not rfl rfl) ?_)
    refine TL.nil ?_
    refine T.cond_t rfl ?_
    refine T.seq ?_
    refine T.region ?_
    refine TL.cons rfl (V1.t (V1.assign' (by (conv => lhs; whnf) <;> rfl)) ?_)
    refine TL.nil ?_
    refine T.ret ?_
    exact ⟨_, G, _, .cons (.tmp (by (conv => lhs; whnf) <;> rfl)) .nil, (by repeat (first | exact Take.nil | apply Take.one (by repeat (first | exact Pick.here | apply Pick.there | apply Pick.far)) | apply Take.seg (by repeat (first | exact PickS.last | exact PickS.one | exact PickS.here | exact PickS.nil | apply PickS.there | apply PickS.far)) | exact Take.last (by repeat (first | exact PickS.last | exact PickS.one | exact PickS.here | exact PickS.nil | apply PickS.there | apply PickS.far)))), rfl, rfl⟩

end Go.Proofs.YtlpkcbkflfbclaaDoor.S
