/- Keys alone open. -/
import Derived.Test.YtlpkcbkflfbclaaDoorT16
namespace Go.Proofs.YtlpkcbkflfbclaaDoor.S
open Go.RowKit

/-- Can it be made, as a truth. -/
noncomputable def ansB (ts : List Tm) (t : Tm) : Bool := @decide (Ans ts t) (Classical.propDecidable _)
theorem ansB_iff {ts : List Tm} {t : Tm} : ansB ts t = true ↔ Ans ts t := by unfold ansB; exact @decide_eq_true_iff _ (Classical.propDecidable _)
theorem ansB_eq {ts us : List Tm} {t u : Tm} (h : Ans ts t ↔ Ans us u) : ansB ts t = ansB us u := by
  rw [Bool.eq_iff_iff, ansB_iff, ansB_iff]; exact h
theorem Makes_d {w0 : World} {Ps : List Blk} {kb : Nat} {l ts : List Tm} {Y : List Blk} (hk : KnO w0 Ps kb l Y) (hn : Kn ts l) (Qs : List Blk) {t : Tm} {ct : List Value} (hx : TmR w0 Qs t ct) : FnV P 20 [.pointer (some ⟨kb, 0, none⟩), .agg ct.toArray] w0 (Y ++ (Qs ++ Ps)) fun v => v = .bool (ansB ts t) := by
  refine (Makes_k hk hn Qs hx).mono ?_
  rintro v Y' ⟨h1, r, rfl, h2⟩
  exact ⟨h1, by congr 1; rw [Bool.eq_iff_iff, ansB_iff]; exact h2⟩

set_option maxRecDepth 100000 in
set_option maxHeartbeats 8000000 in
theorem KnowsOpens_us (w0 : World) {ts us : List Tm} {a : Option Addr} {c : Nat} {vs : List Value} (hr : RowR w0 [] 3 (.slice a ts.length c) ts.length vs) (ht : TmsR w0 [] ts vs) (hb : ts.length * 48 ≤ 140737488351232) {t : Tm} {ct : List Value} (hct : TmR w0 [] t ct) (hus : us = ts ++ [t]) : FnV P 8 [.slice a ts.length c, .agg ct.toArray] w0 [] (fun v => v = .bool true) := by
  obtain ⟨kt, nt, ast⟩ := t
  obtain ⟨at_, ct_, vst, rfl, hrt, hlt, htt⟩ := hct.inv
  have hlus : us.length = ts.length + 1 := by rw [hus]; simp
  refine FnV.of 95 [.tmp 4] Go.Proofs.Tryd.func8 rfl rfl rfl rfl (fun G hG => ?_)
  refine T.seq ?_
  refine T.region ?_
  refine TL.cons rfl (T1.boxN 3 rfl rfl (fun b3 => ?_))
  refine TL.cons rfl (V1.t (V1.assign' (by (conv => lhs; whnf) <;> rfl)) ?_)
  refine TL.nil ?_
  refine T.seq ?_
  refine T.seq ?_
  refine T.region ?_
  refine TL.cons rfl (T1.callV has_24 rfl rfl (opens_any w0) (by repeat (first | exact Inc.nil | assumption | exact Inc.refl | exact Inc.here | apply Inc.app | apply Inc.cons (by repeat (first | exact Find.here | assumption | apply Find.there | apply Find.far)) | apply Inc.skip1 | apply Inc.skip)) (fun v_ hv => ?_))
  obtain rfl := hv
  refine TL.cons rfl (V1.t (V1.not rfl rfl) ?_)
  refine TL.nil ?_
  refine T.cond_f rfl ?_
  refine T.skip ?_
  refine T.seq ?_
  refine T.region ?_
  refine TL.cons rfl (T1.callV has_12 rfl rfl (Of_any w0 [] seN) (by repeat (first | exact Inc.nil | assumption | exact Inc.refl | exact Inc.here | apply Inc.app | apply Inc.cons (by repeat (first | exact Find.here | assumption | apply Find.there | apply Find.far)) | apply Inc.skip1 | apply Inc.skip)) (fun v_ hv => ?_))
  obtain rfl := hv
  refine TL.cons rfl (T1.allocN 3 zr_26 rfl (fun b5 => ?_))
  refine TL.cons rfl (T1.storeN rfl rfl sz_26 (ones rfl) (by repeat (first | exact Sub.one | apply Sub.there | apply Sub.far)) (by rfl) (by rfl) ?_)
  refine TL.nil ?_
  refine T.seq ?_
  refine T.seq ?_
  refine T.region ?_
  refine TL.cons rfl (V1.t (V1.move' (by (conv => lhs; whnf) <;> rfl)) ?_)
  refine TL.cons rfl (V1.t (V1.loadN one_26 sz_26 rfl (RdN.whole (by repeat (first | exact Find.here | assumption | apply Find.there | apply Find.far))) (by rfl)) ?_)
  refine TL.cons rfl (T1.callV has_27 rfl rfl (few_any w0 [] rfl hr ht (t := (.mk kt nt ast)) hct (by omega)) (by repeat (first | exact Inc.nil | assumption | exact Inc.refl | exact Inc.here | apply Inc.app | apply Inc.cons (by repeat (first | exact Find.here | assumption | apply Find.there | apply Find.far)) | apply Inc.skip1 | apply Inc.skip)) (fun v_ hv => ?_))
  obtain ⟨r, rfl, hfew⟩ := hv
  rcases Bool.eq_false_or_eq_true r with hrb | hrb <;> subst hrb
  ·
    obtain ⟨hcs, hnp⟩ := hfew.1 rfl
    rw [← hus] at hcs hnp
    have hcts : ∀ t ∈ ts, chk t = 0 := fun t ht => hcs t (by rw [hus]; exact List.mem_append_left _ ht)
    have hck : chk (.mk kt nt ast) = 0 := hcs _ (by rw [hus]; simp)
    have hnu : nparts us = nparts ts + npart (.mk kt nt ast) := by rw [hus, nparts_app, nparts_cons, nparts_nil]; rfl
    refine TL.cons rfl (V1.t (V1.not rfl rfl) ?_)
    refine TL.nil ?_
    refine T.cond_f rfl ?_
    refine T.skip ?_
    refine T.seq ?_
    refine T.cut (σ := Option Addr × Nat × List Value × List Blk) (l0 := [(0, _), (3, _), (5, _)]) (fun x => [(27, .slice x.1 us.length x.2.1), (28, .int .i64 (us.length : Nat)), (29, .int .i64 0)]) (fun x L => L = x.2.2.2 ++ (⟨b5, 0, [.int .i64 1, .string (bstr seN), .slice none 0 0], 3⟩ :: ⟨b3, 0, [.int .i64 kt, .string (bstr nt), .slice at_ ast.length ct_], 3⟩ :: G) ∧ RowR w0 (x.2.2.2 ++ []) 3 (.slice x.1 us.length x.2.1) us.length x.2.2.1 ∧ TmsR w0 [] us x.2.2.1) (.cons (by (conv => lhs; whnf) <;> rfl) (.cons (by (conv => lhs; whnf) <;> rfl) (.cons (by (conv => lhs; whnf) <;> rfl) .nil))) ?_ ?_
    ·
      refine T.drawK (fun L_ => Find L_ ⟨b3, 0, [.int .i64 kt, .string (bstr nt), .slice at_ ast.length ct_], 3⟩) mixed (by repeat (first | exact Find.here | assumption | apply Find.there | apply Find.far)) ?_
      refine TK.take 1 rfl (by decide +kernel) (by decide +kernel) (by decide +kernel) rfl (fun _ _ _ h => h) (fun L_ k1_ => V1.move' (by (conv => lhs; whnf) <;> rfl)) ?_
      refine TK.take 3 rfl (by decide +kernel) (by decide +kernel) (by decide +kernel) rfl (fun _ _ _ h => h) (fun L_ k1_ => V1.loadN one_26 sz_26 rfl (RdN.whole (by repeat (first | exact Find.here | assumption | apply Find.there | apply Find.far))) (by rfl)) ?_
      refine TK.take 7 rfl (by decide +kernel) (by decide +kernel) (by decide +kernel) rfl (fun _ _ _ h => h) (fun L_ k1_ => V1.move' (by (conv => lhs; whnf) <;> rfl)) ?_
      refine TK.two 0 4 (by decide +kernel) rfl rfl rfl rfl (T1.buildNone ty_23 sz_26 zr_26 (fun b22 => ?_)) (T1.buildOne (cs := [.int .i64 kt, .string (bstr nt), .slice at_ ast.length ct_]) ty_23 sz_26 zr_26 (by decide) rfl (by rfl) (fun b26 => ?_))
      ·
        refine ⟨(by repeat (first | exact Find.here | assumption | apply Find.there | apply Find.far)), ?_⟩
        refine TK.two 2 4 (by decide +kernel) rfl rfl rfl rfl (T1.appendG ty_23 kd_23 sz_26 by_26 zr_26 rfl (by decide) (by decide) rfl rfl (.inr rfl) (SlG.none0 b22) (hr.src _ rfl rfl _ (by repeat (first | exact Inc.nil | assumption | exact Inc.refl | exact Inc.here | apply Inc.app | apply Inc.cons (by repeat (first | exact Find.here | assumption | apply Find.there | apply Find.far)) | apply Inc.skip1 | apply Inc.skip))) ht.ones (ts.length) (by rw [ht.len]; simp) (by omega) (by repeat (first | exact PickS.last | exact PickS.one | exact PickS.here | exact PickS.nil | apply PickS.there | apply PickS.far)) (fun s1 Ls1 hsl1 => ?_)) (T1.buildOne (cs := [.int .i64 kt, .string (bstr nt), .slice at_ ast.length ct_]) ty_23 sz_26 zr_26 (by decide) rfl (by rfl) (fun b26 => ?_))
        ·
          rw [List.nil_append] at hsl1
          refine ⟨(by repeat (first | exact Find.here | assumption | apply Find.there | apply Find.far)), ?_⟩
          refine TK.one 4 (by decide +kernel) rfl rfl (T1.buildOne (cs := [.int .i64 kt, .string (bstr nt), .slice at_ ast.length ct_]) ty_23 sz_26 zr_26 (by decide) rfl (by rfl) (fun b26 => ?_))
          refine ⟨(by repeat (first | exact Find.here | assumption | apply Find.there | apply Find.far)), ?_⟩
          refine TK.one 5 (by decide +kernel) rfl rfl (T1.appendG ty_23 kd_23 sz_26 by_26 zr_26 rfl (by decide) (by decide) rfl rfl (.inr rfl) hsl1 (.sl (vs := [.int .i64 kt, .string (bstr nt), .slice at_ ast.length ct_]) (RdN.at0 (by repeat (first | exact Find.here | assumption | apply Find.there | apply Find.far))) (by rfl)) (ones rfl) (ts.length + 1) (by rw [ht.len]; show _ + 3 ≤ _; omega) (by omega) (by repeat (first | exact PickS.last | exact PickS.one | exact PickS.here | exact PickS.nil | apply PickS.there | apply PickS.far)) (fun s2 Ls2 hsl2 => ?_))
          have htu : TmsR w0 [] us (vs ++ [.int .i64 kt, .string (bstr nt), .slice at_ ast.length ct_]) := by rw [hus]; exact ht.app (TmsR.one hct)
          obtain ⟨au, cu, rfl, hru⟩ := hsl2.tm htu
          refine ⟨(by repeat (first | exact Find.here | assumption | apply Find.there | apply Find.far)), ?_⟩
          refine TK.take 6 rfl (by decide +kernel) (by decide +kernel) (by decide +kernel) rfl (fun _ _ _ h => h) (fun L_ k1_ => V1.lenSl ty_23 rfl) ?_
          refine TD.done (by decide +kernel) ?_
          exact ⟨(au, cu, _, Ls2), _, _, trivial, (.cons rfl (.cons rfl (.cons rfl .nil))), (.cons rfl (.cons rfl (.cons rfl .nil))), (by repeat (first | exact Take.nil | apply Take.one (by repeat (first | exact Pick.here | apply Pick.there | apply Pick.far)) | apply Take.seg (by repeat (first | exact PickS.last | exact PickS.one | exact PickS.here | exact PickS.nil | apply PickS.there | apply PickS.far)) | exact Take.last (by repeat (first | exact PickS.last | exact PickS.one | exact PickS.here | exact PickS.nil | apply PickS.there | apply PickS.far)))), ⟨rfl, hru, htu⟩⟩
        ·
          refine ⟨(by repeat (first | exact Find.here | assumption | apply Find.there | apply Find.far)), ?_⟩
          refine TK.one 2 (by decide +kernel) rfl rfl (T1.appendG ty_23 kd_23 sz_26 by_26 zr_26 rfl (by decide) (by decide) rfl rfl (.inr rfl) (SlG.none0 b22) (hr.src _ rfl rfl _ (by repeat (first | exact Inc.nil | assumption | exact Inc.refl | exact Inc.here | apply Inc.app | apply Inc.cons (by repeat (first | exact Find.here | assumption | apply Find.there | apply Find.far)) | apply Inc.skip1 | apply Inc.skip))) ht.ones (ts.length) (by rw [ht.len]; simp) (by omega) (by repeat (first | exact PickS.last | exact PickS.one | exact PickS.here | exact PickS.nil | apply PickS.there | apply PickS.far)) (fun s1 Ls1 hsl1 => ?_))
          rw [List.nil_append] at hsl1
          refine ⟨(by repeat (first | exact Find.here | assumption | apply Find.there | apply Find.far)), ?_⟩
          refine TK.one 5 (by decide +kernel) rfl rfl (T1.appendG ty_23 kd_23 sz_26 by_26 zr_26 rfl (by decide) (by decide) rfl rfl (.inr rfl) hsl1 (.sl (vs := [.int .i64 kt, .string (bstr nt), .slice at_ ast.length ct_]) (RdN.at0 (by repeat (first | exact Find.here | assumption | apply Find.there | apply Find.far))) (by rfl)) (ones rfl) (ts.length + 1) (by rw [ht.len]; show _ + 3 ≤ _; omega) (by omega) (by repeat (first | exact PickS.last | exact PickS.one | exact PickS.here | exact PickS.nil | apply PickS.there | apply PickS.far)) (fun s2 Ls2 hsl2 => ?_))
          have htu : TmsR w0 [] us (vs ++ [.int .i64 kt, .string (bstr nt), .slice at_ ast.length ct_]) := by rw [hus]; exact ht.app (TmsR.one hct)
          obtain ⟨au, cu, rfl, hru⟩ := hsl2.tm htu
          refine ⟨(by repeat (first | exact Find.here | assumption | apply Find.there | apply Find.far)), ?_⟩
          refine TK.take 6 rfl (by decide +kernel) (by decide +kernel) (by decide +kernel) rfl (fun _ _ _ h => h) (fun L_ k1_ => V1.lenSl ty_23 rfl) ?_
          refine TD.done (by decide +kernel) ?_
          exact ⟨(au, cu, _, Ls2), _, _, trivial, (.cons rfl (.cons rfl (.cons rfl .nil))), (.cons rfl (.cons rfl (.cons rfl .nil))), (by repeat (first | exact Take.nil | apply Take.one (by repeat (first | exact Pick.here | apply Pick.there | apply Pick.far)) | apply Take.seg (by repeat (first | exact PickS.last | exact PickS.one | exact PickS.here | exact PickS.nil | apply PickS.there | apply PickS.far)) | exact Take.last (by repeat (first | exact PickS.last | exact PickS.one | exact PickS.here | exact PickS.nil | apply PickS.there | apply PickS.far)))), ⟨rfl, hru, htu⟩⟩
      ·
        refine ⟨(by repeat (first | exact Find.here | assumption | apply Find.there | apply Find.far)), ?_⟩
        refine TK.one 0 (by decide +kernel) rfl rfl (T1.buildNone ty_23 sz_26 zr_26 (fun b22 => ?_))
        refine ⟨(by repeat (first | exact Find.here | assumption | apply Find.there | apply Find.far)), ?_⟩
        refine TK.one 2 (by decide +kernel) rfl rfl (T1.appendG ty_23 kd_23 sz_26 by_26 zr_26 rfl (by decide) (by decide) rfl rfl (.inr rfl) (SlG.none0 b22) (hr.src _ rfl rfl _ (by repeat (first | exact Inc.nil | assumption | exact Inc.refl | exact Inc.here | apply Inc.app | apply Inc.cons (by repeat (first | exact Find.here | assumption | apply Find.there | apply Find.far)) | apply Inc.skip1 | apply Inc.skip))) ht.ones (ts.length) (by rw [ht.len]; simp) (by omega) (by repeat (first | exact PickS.last | exact PickS.one | exact PickS.here | exact PickS.nil | apply PickS.there | apply PickS.far)) (fun s1 Ls1 hsl1 => ?_))
        rw [List.nil_append] at hsl1
        refine ⟨(by repeat (first | exact Find.here | assumption | apply Find.there | apply Find.far)), ?_⟩
        refine TK.one 5 (by decide +kernel) rfl rfl (T1.appendG ty_23 kd_23 sz_26 by_26 zr_26 rfl (by decide) (by decide) rfl rfl (.inr rfl) hsl1 (.sl (vs := [.int .i64 kt, .string (bstr nt), .slice at_ ast.length ct_]) (RdN.at0 (by repeat (first | exact Find.here | assumption | apply Find.there | apply Find.far))) (by rfl)) (ones rfl) (ts.length + 1) (by rw [ht.len]; show _ + 3 ≤ _; omega) (by omega) (by repeat (first | exact PickS.last | exact PickS.one | exact PickS.here | exact PickS.nil | apply PickS.there | apply PickS.far)) (fun s2 Ls2 hsl2 => ?_))
        have htu : TmsR w0 [] us (vs ++ [.int .i64 kt, .string (bstr nt), .slice at_ ast.length ct_]) := by rw [hus]; exact ht.app (TmsR.one hct)
        obtain ⟨au, cu, rfl, hru⟩ := hsl2.tm htu
        refine ⟨(by repeat (first | exact Find.here | assumption | apply Find.there | apply Find.far)), ?_⟩
        refine TK.take 6 rfl (by decide +kernel) (by decide +kernel) (by decide +kernel) rfl (fun _ _ _ h => h) (fun L_ k1_ => V1.lenSl ty_23 rfl) ?_
        refine TD.done (by decide +kernel) ?_
        exact ⟨(au, cu, _, Ls2), _, _, trivial, (.cons rfl (.cons rfl (.cons rfl .nil))), (.cons rfl (.cons rfl (.cons rfl .nil))), (by repeat (first | exact Take.nil | apply Take.one (by repeat (first | exact Pick.here | apply Pick.there | apply Pick.far)) | apply Take.seg (by repeat (first | exact PickS.last | exact PickS.one | exact PickS.here | exact PickS.nil | apply PickS.there | apply PickS.far)) | exact Take.last (by repeat (first | exact PickS.last | exact PickS.one | exact PickS.here | exact PickS.nil | apply PickS.there | apply PickS.far)))), ⟨rfl, hru, htu⟩⟩
    ·
      rintro ⟨au, cu, vu, Lu⟩ e_ L ⟨rfl, hru, htu⟩
      simp only at hru htu
      refine T.block ?_
      refine T.loopL (σ := Nat) (l0 := [(0, _), (3, _), (5, _), (27, _), (28, _)]) (fun x => [(29, .int .i64 (x : Nat))]) (fun i L => L = Lu ++ (⟨b5, 0, [.int .i64 1, .string (bstr seN), .slice none 0 0], 3⟩ :: ⟨b3, 0, [.int .i64 kt, .string (bstr nt), .slice at_ ast.length ct_], 3⟩ :: G) ∧ i ≤ us.length ∧ ∀ y ∈ us.take i, se ∉ subs y) (fun i => us.length - i) 0 (.cons rfl .nil) (.cons (by (conv => lhs; whnf) <;> rfl) (.cons (by (conv => lhs; whnf) <;> rfl) (.cons (by (conv => lhs; whnf) <;> rfl) (.cons (by (conv => lhs; whnf) <;> rfl) (.cons (by (conv => lhs; whnf) <;> rfl) .nil))))) (by repeat (first | exact Take.nil | apply Take.one (by repeat (first | exact Pick.here | apply Pick.there | apply Pick.far)) | apply Take.seg (by repeat (first | exact PickS.last | exact PickS.one | exact PickS.here | exact PickS.nil | apply PickS.there | apply PickS.far)) | exact Take.last (by repeat (first | exact PickS.last | exact PickS.one | exact PickS.here | exact PickS.nil | apply PickS.there | apply PickS.far)))) (⟨rfl, Nat.zero_le _, by simp⟩) ?_
      rintro i e_ L ⟨rfl, hi, hfs⟩
      refine T.seq ?_
      refine T.region ?_
      refine TL.cons rfl (T1.ltI_split rfl rfl (fun h9 => ?_) (fun h9 => ?_))
      ·
        obtain ⟨x, hx0⟩ : ∃ x, us[i]? = some x := ⟨_, List.getElem?_eq_getElem (by omega)⟩
        obtain ⟨bx, ox, cs_, rfl, hx, hrdx⟩ := hru.term htu hx0 P
        obtain ⟨kx, nx, asx⟩ := x
        obtain ⟨ax, cx, vsx, rfl, hrx, hlx, htx⟩ := hx.inv
        try simp only at *
        refine TL.nil ?_
        refine T.seq ?_
        refine T.cond_t rfl ?_
        refine T.skip ?_
        refine T.seq ?_
        refine T.block ?_
        refine T.seq ?_
        refine T.region ?_
        refine TL.cons rfl (V1.t (V1.indexAddrS ty_23 sz_26 rfl rfl (by omega) (by omega)) ?_)
        refine TL.cons rfl (V1.t (V1.loadN (vs := [.int .i64 kx, .string (bstr nx), .slice ax asx.length cx]) one_26 sz_26 rfl (hrdx _ rfl rfl _ (by repeat (first | exact Inc.nil | assumption | exact Inc.refl | exact Inc.here | apply Inc.app | apply Inc.cons (by repeat (first | exact Find.here | assumption | apply Find.there | apply Find.far)) | apply Inc.skip1 | apply Inc.skip))) rfl) ?_)
        refine TL.cons rfl (T1.allocN 3 zr_26 rfl (fun b7 => ?_))
        refine TL.cons rfl (T1.storeN rfl rfl sz_26 (ones rfl) (by repeat (first | exact Sub.one | apply Sub.there | apply Sub.far)) (by rfl) (by rfl) ?_)
        refine TL.nil ?_
        refine T.seq ?_
        refine T.region ?_
        refine TL.cons rfl (V1.t (V1.loadN one_26 sz_26 rfl (RdN.whole (by repeat (first | exact Find.here | assumption | apply Find.there | apply Find.far))) (by rfl)) ?_)
        refine TL.cons rfl (T1.callC has_18 rfl rfl (Parts_any w0 [] (.mk kx nx asx) _ hx (by have := (chk_iff.1 (hcs _ (List.mem_of_getElem? hx0))).1; omega)) (by repeat (first | exact Inc.nil | assumption | exact Inc.refl | exact Inc.here | apply Inc.app | apply Inc.cons (by repeat (first | exact Find.here | assumption | apply Find.there | apply Find.far)) | apply Inc.skip1 | apply Inc.skip)) (fun v_ Yp hY => ?_))
        obtain ⟨up, wp, hsp, hmp, hslp, htp⟩ := hY
        obtain ⟨ap, cp, rfl, hrp⟩ := SlG.tm hslp htp
        have hlp := npart_of hsp.nodup hmp
        have hlp2 := npart_le (.mk kx nx asx)
        have hlp3 := (chk_iff.1 (hcs _ (List.mem_of_getElem? hx0))).1
        refine TL.cons rfl (V1.t (V1.lenSl ty_23 rfl) ?_)
        refine TL.cons rfl (V1.t (V1.move' (by (conv => lhs; whnf) <;> rfl)) ?_)
        refine TL.nil ?_
        refine T.block ?_
        refine T.loopL (σ := Nat) (l0 := [(0, _), (3, _), (5, _), (27, _), (28, _), (29, _), (34, _), (35, _)]) (fun x => [(36, .int .i64 (x : Nat))]) (fun j L => L = Yp ++ (Lu ++ (⟨b5, 0, [.int .i64 1, .string (bstr seN), .slice none 0 0], 3⟩ :: ⟨b3, 0, [.int .i64 kt, .string (bstr nt), .slice at_ ast.length ct_], 3⟩ :: G)) ∧ j ≤ up.length ∧ ∀ y ∈ up.take j, y ≠ se) (fun j => up.length - j) 0 (.cons rfl .nil) (.cons (by (conv => lhs; whnf) <;> rfl) (.cons (by (conv => lhs; whnf) <;> rfl) (.cons (by (conv => lhs; whnf) <;> rfl) (.cons (by (conv => lhs; whnf) <;> rfl) (.cons (by (conv => lhs; whnf) <;> rfl) (.cons (by (conv => lhs; whnf) <;> rfl) (.cons (by (conv => lhs; whnf) <;> rfl) (.cons (by (conv => lhs; whnf) <;> rfl) .nil)))))))) (by repeat (first | exact Take.nil | apply Take.one (by repeat (first | exact Pick.here | apply Pick.there | apply Pick.far)) | apply Take.seg (by repeat (first | exact PickS.last | exact PickS.one | exact PickS.here | exact PickS.nil | apply PickS.there | apply PickS.far)) | exact Take.last (by repeat (first | exact PickS.last | exact PickS.one | exact PickS.here | exact PickS.nil | apply PickS.there | apply PickS.far)))) (⟨rfl, Nat.zero_le _, by simp⟩) ?_
        rintro j e_ L ⟨rfl, hj, hjs⟩
        refine T.seq ?_
        refine T.region ?_
        refine TL.cons rfl (T1.ltI_split rfl rfl (fun h10 => ?_) (fun h10 => ?_))
        ·
          obtain ⟨q, hq0⟩ : ∃ q, up[j]? = some q := ⟨_, List.getElem?_eq_getElem (by omega)⟩
          obtain ⟨bq, oq, cs_, rfl, hq, hrdq⟩ := hrp.term htp hq0 P
          obtain ⟨kq, nq, asq⟩ := q
          obtain ⟨aq, cq, vsq, rfl, hrq, hlq, htq⟩ := hq.inv
          try simp only at *
          refine TL.nil ?_
          refine T.seq ?_
          refine T.cond_t rfl ?_
          refine T.skip ?_
          refine T.seq ?_
          refine T.block ?_
          refine T.seq ?_
          refine T.region ?_
          refine TL.cons rfl (V1.t (V1.indexAddrS ty_23 sz_26 rfl rfl (by omega) (by omega)) ?_)
          refine TL.cons rfl (V1.t (V1.loadN (vs := [.int .i64 kq, .string (bstr nq), .slice aq asq.length cq]) one_26 sz_26 rfl (hrdq _ rfl rfl _ (by repeat (first | exact Inc.nil | assumption | exact Inc.refl | exact Inc.here | apply Inc.app | apply Inc.cons (by repeat (first | exact Find.here | assumption | apply Find.there | apply Find.far)) | apply Inc.skip1 | apply Inc.skip))) rfl) ?_)
          refine TL.cons rfl (T1.allocN 3 zr_26 rfl (fun b9 => ?_))
          refine TL.cons rfl (T1.storeN rfl rfl sz_26 (ones rfl) (by repeat (first | exact Sub.one | apply Sub.there | apply Sub.far)) (by rfl) (by rfl) ?_)
          refine TL.nil ?_
          refine T.seq ?_
          refine T.region ?_
          refine TL.cons rfl (V1.t (V1.loadN one_26 sz_26 rfl (RdN.whole (by repeat (first | exact Find.here | assumption | apply Find.there | apply Find.far))) (by rfl)) ?_)
          refine TL.cons rfl (V1.t (V1.loadN one_26 sz_26 rfl (RdN.whole (by repeat (first | exact Find.here | assumption | apply Find.there | apply Find.far))) (by rfl)) ?_)
          refine TL.cons rfl (T1.callV has_15 rfl rfl (Compare_any w0 (.mk kq nq asq) se [] _ _ hq TmR.atom) (by repeat (first | exact Inc.nil | assumption | exact Inc.refl | exact Inc.here | apply Inc.app | apply Inc.cons (by repeat (first | exact Find.here | assumption | apply Find.there | apply Find.far)) | apply Inc.skip1 | apply Inc.skip)) (fun v_ hv => ?_))
          obtain rfl := hv
          refine TL.cons rfl (T1.eqI_split rfl rfl (fun h12 => ?_) (fun h12 => ?_))
          ·
            refine TL.nil ?_
            refine T.cond_t rfl ?_
            refine T.seq ?_
            refine T.region ?_
            refine TL.cons rfl (V1.t (V1.assign' (by (conv => lhs; whnf) <;> rfl)) ?_)
            refine TL.nil ?_
            refine T.ret ?_
            exact ⟨_, G, _, .cons (.tmp (by (conv => lhs; whnf) <;> rfl)) .nil, (by repeat (first | exact Take.nil | apply Take.one (by repeat (first | exact Pick.here | apply Pick.there | apply Pick.far)) | apply Take.seg (by repeat (first | exact PickS.last | exact PickS.one | exact PickS.here | exact PickS.nil | apply PickS.there | apply PickS.far)) | exact Take.last (by repeat (first | exact PickS.last | exact PickS.one | exact PickS.here | exact PickS.nil | apply PickS.there | apply PickS.far)))), rfl, rfl⟩
          ·
            refine TL.nil ?_
            refine T.cond_f rfl ?_
            refine T.skip ?_
            refine T.region ?_
            refine TL.cons rfl (V1.t (V1.add (c := ((j + 1 : Nat) : Int)) rfl rfl (by rw [wrap_i64 _ (by omega) (by omega)]; omega)) ?_)
            refine TL.cons rfl (V1.t (V1.move' (by (conv => lhs; whnf) <;> rfl)) ?_)
            refine TL.nil ?_
            exact ⟨j + 1, Yp ++ (Lu ++ (⟨b5, 0, [.int .i64 1, .string (bstr seN), .slice none 0 0], 3⟩ :: ⟨b3, 0, [.int .i64 kt, .string (bstr nt), .slice at_ ast.length ct_], 3⟩ :: G)), _, (by simp only; omega), (.cons rfl .nil), (.cons rfl (.cons rfl (.cons rfl (.cons rfl (.cons rfl (.cons rfl (.cons rfl (.cons rfl .nil)))))))), (by repeat (first | exact Take.nil | apply Take.one (by repeat (first | exact Pick.here | apply Pick.there | apply Pick.far)) | apply Take.seg (by repeat (first | exact PickS.last | exact PickS.one | exact PickS.here | exact PickS.nil | apply PickS.there | apply PickS.far)) | exact Take.last (by repeat (first | exact PickS.last | exact PickS.one | exact PickS.here | exact PickS.nil | apply PickS.there | apply PickS.far)))), ⟨rfl, by omega, take_all hq0 hjs (fun e => h12 (by rw [e]; exact cmpT_self _))⟩⟩
        ·
          obtain rfl : j = up.length := by omega
          rw [List.take_length] at hjs
          have hfx : se ∉ subs (.mk kx nx asx) := fun h => hjs _ ((hmp _).2 h) rfl
          refine TL.nil ?_
          refine T.seq ?_
          refine T.cond_f rfl ?_
          refine T.exit ?_
          refine T.region ?_
          refine TL.cons rfl (V1.t (V1.add (c := ((i + 1 : Nat) : Int)) rfl rfl (by rw [wrap_i64 _ (by omega) (by omega)]; omega)) ?_)
          refine TL.cons rfl (V1.t (V1.move' (by (conv => lhs; whnf) <;> rfl)) ?_)
          refine TL.nil ?_
          exact ⟨i + 1, Lu ++ (⟨b5, 0, [.int .i64 1, .string (bstr seN), .slice none 0 0], 3⟩ :: ⟨b3, 0, [.int .i64 kt, .string (bstr nt), .slice at_ ast.length ct_], 3⟩ :: G), _, (by simp only; omega), (.cons rfl .nil), (.cons rfl (.cons rfl (.cons rfl (.cons rfl (.cons rfl .nil))))), (by repeat (first | exact Take.nil | apply Take.one (by repeat (first | exact Pick.here | apply Pick.there | apply Pick.far)) | apply Take.seg (by repeat (first | exact PickS.last | exact PickS.one | exact PickS.here | exact PickS.nil | apply PickS.there | apply PickS.far)) | exact Take.last (by repeat (first | exact PickS.last | exact PickS.one | exact PickS.here | exact PickS.nil | apply PickS.there | apply PickS.far)))), ⟨rfl, by omega, take_all hx0 hfs hfx⟩⟩
      ·
        obtain rfl : i = us.length := by omega
        rw [List.take_length] at hfs
        refine TL.nil ?_
        refine T.seq ?_
        refine T.cond_f rfl ?_
        refine T.exit ?_
        refine T.seq ?_
        refine T.region ?_
        refine TL.cons rfl (V1.t (V1.loadN one_26 sz_26 rfl (RdN.whole (by repeat (first | exact Find.here | assumption | apply Find.there | apply Find.far))) (by rfl)) ?_)
        refine TL.cons rfl (V1.t (V1.loadN one_26 sz_26 rfl (RdN.whole (by repeat (first | exact Find.here | assumption | apply Find.there | apply Find.far))) (by rfl)) ?_)
        refine TL.cons rfl (T1.buildTwo (cs := [.int .i64 kt, .string (bstr nt), .slice at_ ast.length ct_]) (ds := [.int .i64 1, .string (bstr seN), .slice none 0 0]) ty_23 sz_26 zr_26 (by decide) rfl rfl (by rfl) (by rfl) (fun b48 => ?_))
        refine TL.cons rfl (V1.t (V1.buildF pl_26 zr_26 (.one rfl (by (conv => lhs; whnf) <;> rfl) rfl (.one rfl (by (conv => lhs; whnf) <;> rfl) rfl .nil)) (by repeat (first | exact FillL.nil | exact SetN.done | apply SetN.here | apply SetN.there | apply FillL.cons))) ?_)
        refine TL.cons rfl (T1.allocN 3 zr_26 rfl (fun b10 => ?_))
        refine TL.cons rfl (T1.storeN rfl rfl sz_26 (ones rfl) (by repeat (first | exact Sub.one | apply Sub.there | apply Sub.far)) (by rfl) (by rfl) ?_)
        have hse : TmR w0 [(⟨⟨b48, some 26⟩, 0, [.int .i64 kt, .string (bstr nt), .slice at_ ast.length ct_] ++ [.int .i64 1, .string (bstr seN), .slice none 0 0], 2 * 3⟩ : Blk)] (.mk 3 [] [(.mk kt nt ast), se]) [.int .i64 3, .string (bstr []), .slice (some ⟨b48, 0, none⟩) 2 2] := TmR.mkN (nm := []) (n := 2) rfl (RowR.own (List.mem_cons_self ..) rfl) (by decide) (TmsR.cons (hct.more Inc.nil) (TmsR.one TmR.atom))
        have hft : ∀ y ∈ ts, se ∉ subs y := fun y hy => hfs y (by rw [hus]; exact List.mem_append_left _ hy)
        have hfk : se ∉ subs (.mk kt nt ast) := hfs _ (by rw [hus]; simp)
        have hnse : npart (.mk 3 [] [(.mk kt nt ast), se]) ≤ npart (.mk kt nt ast) + 2 := by have : npart (.mk 3 [] [(.mk kt nt ast), se]) ≤ nparts [(.mk kt nt ast), se] + 1 := nparts_comp; rw [nparts_cons, nparts_cons, nparts_nil, se_chk.2] at this; omega
        refine TL.nil ?_
        refine T.seq ?_
        refine T.seq ?_
        refine T.region ?_
        refine TL.cons rfl (V1.t (V1.loadN one_26 sz_26 rfl (RdN.whole (by repeat (first | exact Find.here | assumption | apply Find.there | apply Find.far))) (by rfl)) ?_)
        refine TL.cons rfl (T1.callV has_17 rfl rfl (Check_any w0 [(⟨⟨b48, some 26⟩, 0, [.int .i64 kt, .string (bstr nt), .slice at_ ast.length ct_] ++ [.int .i64 1, .string (bstr seN), .slice none 0 0], 2 * 3⟩ : Blk)] (.mk 3 [] [(.mk kt nt ast), se]) _ hse) (by repeat (first | exact Inc.nil | assumption | exact Inc.refl | exact Inc.here | apply Inc.app | apply Inc.cons (by repeat (first | exact Find.here | assumption | apply Find.there | apply Find.far)) | apply Inc.skip1 | apply Inc.skip)) (fun v_ hv => ?_))
        obtain rfl := hv
        refine TL.cons rfl (T1.neI_split rfl rfl (fun h17 => ?_) (fun h17 => ?_))
        ·
          refine TL.nil ?_
          refine T.cond_t rfl ?_
          refine T.seq ?_
          refine T.region ?_
          refine TL.cons rfl (V1.t (V1.assign' (by (conv => lhs; whnf) <;> rfl)) ?_)
          refine TL.nil ?_
          refine T.ret ?_
          exact ⟨_, G, _, .cons (.tmp (by (conv => lhs; whnf) <;> rfl)) .nil, (by repeat (first | exact Take.nil | apply Take.one (by repeat (first | exact Pick.here | apply Pick.there | apply Pick.far)) | apply Take.seg (by repeat (first | exact PickS.last | exact PickS.one | exact PickS.here | exact PickS.nil | apply PickS.there | apply PickS.far)) | exact Take.last (by repeat (first | exact PickS.last | exact PickS.one | exact PickS.here | exact PickS.nil | apply PickS.there | apply PickS.far)))), rfl, rfl⟩
        ·
          have hcse : chk (.mk 3 [] [(.mk kt nt ast), se]) = 0 := h17
          have hcn : ∀ t ∈ ts ++ [(.mk 3 [] [(.mk kt nt ast), se])], chk t = 0 := chk_of hcts (by intro t ht; rw [List.mem_singleton] at ht; subst ht; exact hcse)
          refine TL.nil ?_
          refine T.cond_f rfl ?_
          refine T.skip ?_
          refine T.seq ?_
          refine T.region ?_
          refine TL.cons rfl (V1.t (V1.move' (by (conv => lhs; whnf) <;> rfl)) ?_)
          refine TL.cons rfl (T1.callC has_19 rfl rfl (New_kn w0 [] rfl hr ht hcts (by omega)) (by repeat (first | exact Inc.nil | assumption | exact Inc.refl | exact Inc.here | apply Inc.app | apply Inc.cons (by repeat (first | exact Find.here | assumption | apply Find.there | apply Find.far)) | apply Inc.skip1 | apply Inc.skip)) (fun v_ Y1 hY => ?_))
          obtain ⟨kb1, l1, rfl, hkn1, hk1⟩ := hY
          refine TL.cons rfl (V1.t (V1.move' (by (conv => lhs; whnf) <;> rfl)) ?_)
          refine TL.cons rfl (V1.t (V1.extract rfl (by rfl)) ?_)
          refine TL.cons rfl (V1.t (V1.extract rfl (by rfl)) ?_)
          refine TL.cons rfl (V1.t (V1.assign' (by (conv => lhs; whnf) <;> rfl)) ?_)
          refine TL.cons rfl (V1.t (V1.assign' (by (conv => lhs; whnf) <;> rfl)) ?_)
          refine TL.nil ?_
          refine T.cut (σ := Nat × List Blk × List Blk) (l0 := [(3, _), (5, _), (11, _)]) (fun x => [(13, .pointer (some ⟨x.1, 0, none⟩)), (14, .int .i64 0)]) (fun x L => ∃ l2, L = x.2.1 ++ (x.2.2 ++ (Y1 ++ (⟨b10, 0, [.int .i64 3, .string (bstr []), .slice (some ⟨b48, 0, none⟩) 2 2], 3⟩ :: ⟨b5, 0, [.int .i64 1, .string (bstr seN), .slice none 0 0], 3⟩ :: ⟨b3, 0, [.int .i64 kt, .string (bstr nt), .slice at_ ast.length ct_], 3⟩ :: (⟨⟨b48, some 26⟩, 0, [.int .i64 kt, .string (bstr nt), .slice at_ ast.length ct_] ++ [.int .i64 1, .string (bstr seN), .slice none 0 0], 2 * 3⟩ : Blk) :: G))) ∧ KnO w0 (x.2.2 ++ [(⟨⟨b48, some 26⟩, 0, [.int .i64 kt, .string (bstr nt), .slice at_ ast.length ct_] ++ [.int .i64 1, .string (bstr seN), .slice none 0 0], 2 * 3⟩ : Blk)]) x.1 l2 x.2.1 ∧ Kn (ts ++ [(.mk 3 [] [(.mk kt nt ast), se])]) l2) (.cons (by (conv => lhs; whnf) <;> rfl) (.cons (by (conv => lhs; whnf) <;> rfl) (.cons (by (conv => lhs; whnf) <;> rfl) .nil))) ?_ ?_
          ·
            refine T.live (l := [(0, _), (3, _), (5, _), (10, _), (11, _)]) (.cons (by (conv => lhs; whnf) <;> rfl) (.cons (by (conv => lhs; whnf) <;> rfl) (.cons (by (conv => lhs; whnf) <;> rfl) (.cons (by (conv => lhs; whnf) <;> rfl) (.cons (by (conv => lhs; whnf) <;> rfl) .nil))))) (fun e_ => ?_)
            refine T.drawK (fun L_ => Find L_ ⟨b10, 0, [.int .i64 3, .string (bstr []), .slice (some ⟨b48, 0, none⟩) 2 2], 3⟩) mixed (by repeat (first | exact Find.here | assumption | apply Find.there | apply Find.far)) ?_
            refine TK.take 1 rfl (by decide +kernel) (by decide +kernel) (by decide +kernel) rfl (fun _ _ _ h => h) (fun L_ k1_ => V1.move' (by (conv => lhs; whnf) <;> rfl)) ?_
            refine TK.take 3 rfl (by decide +kernel) (by decide +kernel) (by decide +kernel) rfl (fun _ _ _ h => h) (fun L_ k1_ => V1.loadN one_26 sz_26 rfl (RdN.whole (by repeat (first | exact Find.here | assumption | apply Find.there | apply Find.far))) (by rfl)) ?_
            refine TK.two 0 4 (by decide +kernel) rfl rfl rfl rfl (T1.buildNone ty_23 sz_26 zr_26 (fun b59 => ?_)) (T1.buildOne (cs := [.int .i64 3, .string (bstr []), .slice (some ⟨b48, 0, none⟩) 2 2]) ty_23 sz_26 zr_26 (by decide) rfl (by rfl) (fun b63 => ?_))
            ·
              refine ⟨(by repeat (first | exact Find.here | assumption | apply Find.there | apply Find.far)), ?_⟩
              refine TK.two 2 4 (by decide +kernel) rfl rfl rfl rfl (T1.appendG ty_23 kd_23 sz_26 by_26 zr_26 rfl (by decide) (by decide) rfl rfl (.inr rfl) (SlG.none0 b59) (hr.src _ rfl rfl _ (by repeat (first | exact Inc.nil | assumption | exact Inc.refl | exact Inc.here | apply Inc.app | apply Inc.cons (by repeat (first | exact Find.here | assumption | apply Find.there | apply Find.far)) | apply Inc.skip1 | apply Inc.skip))) ht.ones (ts.length) (by rw [ht.len]; simp) (by omega) (by repeat (first | exact PickS.last | exact PickS.one | exact PickS.here | exact PickS.nil | apply PickS.there | apply PickS.far)) (fun s1 Ls1 hsl1 => ?_)) (T1.buildOne (cs := [.int .i64 3, .string (bstr []), .slice (some ⟨b48, 0, none⟩) 2 2]) ty_23 sz_26 zr_26 (by decide) rfl (by rfl) (fun b63 => ?_))
              ·
                rw [List.nil_append] at hsl1
                refine ⟨(by repeat (first | exact Find.here | assumption | apply Find.there | apply Find.far)), ?_⟩
                refine TK.one 4 (by decide +kernel) rfl rfl (T1.buildOne (cs := [.int .i64 3, .string (bstr []), .slice (some ⟨b48, 0, none⟩) 2 2]) ty_23 sz_26 zr_26 (by decide) rfl (by rfl) (fun b63 => ?_))
                refine ⟨(by repeat (first | exact Find.here | assumption | apply Find.there | apply Find.far)), ?_⟩
                refine TK.one 5 (by decide +kernel) rfl rfl (T1.appendG ty_23 kd_23 sz_26 by_26 zr_26 rfl (by decide) (by decide) rfl rfl (.inr rfl) hsl1 (.sl (vs := [.int .i64 3, .string (bstr []), .slice (some ⟨b48, 0, none⟩) 2 2]) (RdN.at0 (by repeat (first | exact Find.here | assumption | apply Find.there | apply Find.far))) (by rfl)) (ones rfl) (ts.length + 1) (by rw [ht.len]; show _ + 3 ≤ _; omega) (by omega) (by repeat (first | exact PickS.last | exact PickS.one | exact PickS.here | exact PickS.nil | apply PickS.there | apply PickS.far)) (fun s2 Ls2 hsl2 => ?_))
                have htn : TmsR w0 [(⟨⟨b48, some 26⟩, 0, [.int .i64 kt, .string (bstr nt), .slice at_ ast.length ct_] ++ [.int .i64 1, .string (bstr seN), .slice none 0 0], 2 * 3⟩ : Blk)] (ts ++ [(.mk 3 [] [(.mk kt nt ast), se])]) (vs ++ [.int .i64 3, .string (bstr []), .slice (some ⟨b48, 0, none⟩) 2 2]) := (ht.more Inc.nil).app (TmsR.one hse)
                obtain ⟨an, cn, rfl, hrn⟩ := hsl2.tm htn
                refine ⟨(by repeat (first | exact Find.here | assumption | apply Find.there | apply Find.far)), ?_⟩
                refine TK.one 6 (by decide +kernel) rfl rfl (T1.callC has_19 rfl rfl (New_kn w0 (Ls2 ++ [(⟨⟨b48, some 26⟩, 0, [.int .i64 kt, .string (bstr nt), .slice at_ ast.length ct_] ++ [.int .i64 1, .string (bstr seN), .slice none 0 0], 2 * 3⟩ : Blk)]) rfl hrn (htn.more (Inc.skip Inc.refl)) hcn (by rw [nparts_app, nparts_cons, nparts_nil]; omega)) (by repeat (first | exact Inc.nil | assumption | exact Inc.refl | exact Inc.here | apply Inc.app | apply Inc.cons (by repeat (first | exact Find.here | assumption | apply Find.there | apply Find.far)) | apply Inc.skip1 | apply Inc.skip)) (fun v_ Y2 hY => ?_))
                obtain ⟨kb2, l2, rfl, hkn2, hk2⟩ := hY
                refine ⟨(by repeat (first | exact Find.here | assumption | apply Find.there | apply Find.far)), ?_⟩
                refine TK.take 7 rfl (by decide +kernel) (by decide +kernel) (by decide +kernel) rfl (fun _ _ _ h => h) (fun L_ k1_ => V1.move' (by (conv => lhs; whnf) <;> rfl)) ?_
                refine TK.take 8 rfl (by decide +kernel) (by decide +kernel) (by decide +kernel) rfl (fun _ _ _ h => h) (fun L_ k1_ => V1.extract rfl (by rfl)) ?_
                refine TK.take 9 rfl (by decide +kernel) (by decide +kernel) (by decide +kernel) rfl (fun _ _ _ h => h) (fun L_ k1_ => V1.extract rfl (by rfl)) ?_
                refine TK.take 10 rfl (by decide +kernel) (by decide +kernel) (by decide +kernel) rfl (fun _ _ _ h => h) (fun L_ k1_ => V1.assign' (by (conv => lhs; whnf) <;> rfl)) ?_
                refine TK.take 11 rfl (by decide +kernel) (by decide +kernel) (by decide +kernel) rfl (fun _ _ _ h => h) (fun L_ k1_ => V1.assign' (by (conv => lhs; whnf) <;> rfl)) ?_
                refine TD.done (by decide +kernel) ?_
                exact ⟨(kb2, Y2, Ls2), _, _, trivial, (.cons rfl (.cons rfl .nil)), (.cons rfl (.cons rfl (.cons rfl .nil))), (by repeat (first | exact Take.nil | apply Take.one (by repeat (first | exact Pick.here | apply Pick.there | apply Pick.far)) | apply Take.seg (by repeat (first | exact PickS.last | exact PickS.one | exact PickS.here | exact PickS.nil | apply PickS.there | apply PickS.far)) | exact Take.last (by repeat (first | exact PickS.last | exact PickS.one | exact PickS.here | exact PickS.nil | apply PickS.there | apply PickS.far)))), ⟨l2, rfl, hkn2, hk2⟩⟩
              ·
                refine ⟨(by repeat (first | exact Find.here | assumption | apply Find.there | apply Find.far)), ?_⟩
                refine TK.one 2 (by decide +kernel) rfl rfl (T1.appendG ty_23 kd_23 sz_26 by_26 zr_26 rfl (by decide) (by decide) rfl rfl (.inr rfl) (SlG.none0 b59) (hr.src _ rfl rfl _ (by repeat (first | exact Inc.nil | assumption | exact Inc.refl | exact Inc.here | apply Inc.app | apply Inc.cons (by repeat (first | exact Find.here | assumption | apply Find.there | apply Find.far)) | apply Inc.skip1 | apply Inc.skip))) ht.ones (ts.length) (by rw [ht.len]; simp) (by omega) (by repeat (first | exact PickS.last | exact PickS.one | exact PickS.here | exact PickS.nil | apply PickS.there | apply PickS.far)) (fun s1 Ls1 hsl1 => ?_))
                rw [List.nil_append] at hsl1
                refine ⟨(by repeat (first | exact Find.here | assumption | apply Find.there | apply Find.far)), ?_⟩
                refine TK.one 5 (by decide +kernel) rfl rfl (T1.appendG ty_23 kd_23 sz_26 by_26 zr_26 rfl (by decide) (by decide) rfl rfl (.inr rfl) hsl1 (.sl (vs := [.int .i64 3, .string (bstr []), .slice (some ⟨b48, 0, none⟩) 2 2]) (RdN.at0 (by repeat (first | exact Find.here | assumption | apply Find.there | apply Find.far))) (by rfl)) (ones rfl) (ts.length + 1) (by rw [ht.len]; show _ + 3 ≤ _; omega) (by omega) (by repeat (first | exact PickS.last | exact PickS.one | exact PickS.here | exact PickS.nil | apply PickS.there | apply PickS.far)) (fun s2 Ls2 hsl2 => ?_))
                have htn : TmsR w0 [(⟨⟨b48, some 26⟩, 0, [.int .i64 kt, .string (bstr nt), .slice at_ ast.length ct_] ++ [.int .i64 1, .string (bstr seN), .slice none 0 0], 2 * 3⟩ : Blk)] (ts ++ [(.mk 3 [] [(.mk kt nt ast), se])]) (vs ++ [.int .i64 3, .string (bstr []), .slice (some ⟨b48, 0, none⟩) 2 2]) := (ht.more Inc.nil).app (TmsR.one hse)
                obtain ⟨an, cn, rfl, hrn⟩ := hsl2.tm htn
                refine ⟨(by repeat (first | exact Find.here | assumption | apply Find.there | apply Find.far)), ?_⟩
                refine TK.one 6 (by decide +kernel) rfl rfl (T1.callC has_19 rfl rfl (New_kn w0 (Ls2 ++ [(⟨⟨b48, some 26⟩, 0, [.int .i64 kt, .string (bstr nt), .slice at_ ast.length ct_] ++ [.int .i64 1, .string (bstr seN), .slice none 0 0], 2 * 3⟩ : Blk)]) rfl hrn (htn.more (Inc.skip Inc.refl)) hcn (by rw [nparts_app, nparts_cons, nparts_nil]; omega)) (by repeat (first | exact Inc.nil | assumption | exact Inc.refl | exact Inc.here | apply Inc.app | apply Inc.cons (by repeat (first | exact Find.here | assumption | apply Find.there | apply Find.far)) | apply Inc.skip1 | apply Inc.skip)) (fun v_ Y2 hY => ?_))
                obtain ⟨kb2, l2, rfl, hkn2, hk2⟩ := hY
                refine ⟨(by repeat (first | exact Find.here | assumption | apply Find.there | apply Find.far)), ?_⟩
                refine TK.take 7 rfl (by decide +kernel) (by decide +kernel) (by decide +kernel) rfl (fun _ _ _ h => h) (fun L_ k1_ => V1.move' (by (conv => lhs; whnf) <;> rfl)) ?_
                refine TK.take 8 rfl (by decide +kernel) (by decide +kernel) (by decide +kernel) rfl (fun _ _ _ h => h) (fun L_ k1_ => V1.extract rfl (by rfl)) ?_
                refine TK.take 9 rfl (by decide +kernel) (by decide +kernel) (by decide +kernel) rfl (fun _ _ _ h => h) (fun L_ k1_ => V1.extract rfl (by rfl)) ?_
                refine TK.take 10 rfl (by decide +kernel) (by decide +kernel) (by decide +kernel) rfl (fun _ _ _ h => h) (fun L_ k1_ => V1.assign' (by (conv => lhs; whnf) <;> rfl)) ?_
                refine TK.take 11 rfl (by decide +kernel) (by decide +kernel) (by decide +kernel) rfl (fun _ _ _ h => h) (fun L_ k1_ => V1.assign' (by (conv => lhs; whnf) <;> rfl)) ?_
                refine TD.done (by decide +kernel) ?_
                exact ⟨(kb2, Y2, Ls2), _, _, trivial, (.cons rfl (.cons rfl .nil)), (.cons rfl (.cons rfl (.cons rfl .nil))), (by repeat (first | exact Take.nil | apply Take.one (by repeat (first | exact Pick.here | apply Pick.there | apply Pick.far)) | apply Take.seg (by repeat (first | exact PickS.last | exact PickS.one | exact PickS.here | exact PickS.nil | apply PickS.there | apply PickS.far)) | exact Take.last (by repeat (first | exact PickS.last | exact PickS.one | exact PickS.here | exact PickS.nil | apply PickS.there | apply PickS.far)))), ⟨l2, rfl, hkn2, hk2⟩⟩
            ·
              refine ⟨(by repeat (first | exact Find.here | assumption | apply Find.there | apply Find.far)), ?_⟩
              refine TK.one 0 (by decide +kernel) rfl rfl (T1.buildNone ty_23 sz_26 zr_26 (fun b59 => ?_))
              refine ⟨(by repeat (first | exact Find.here | assumption | apply Find.there | apply Find.far)), ?_⟩
              refine TK.one 2 (by decide +kernel) rfl rfl (T1.appendG ty_23 kd_23 sz_26 by_26 zr_26 rfl (by decide) (by decide) rfl rfl (.inr rfl) (SlG.none0 b59) (hr.src _ rfl rfl _ (by repeat (first | exact Inc.nil | assumption | exact Inc.refl | exact Inc.here | apply Inc.app | apply Inc.cons (by repeat (first | exact Find.here | assumption | apply Find.there | apply Find.far)) | apply Inc.skip1 | apply Inc.skip))) ht.ones (ts.length) (by rw [ht.len]; simp) (by omega) (by repeat (first | exact PickS.last | exact PickS.one | exact PickS.here | exact PickS.nil | apply PickS.there | apply PickS.far)) (fun s1 Ls1 hsl1 => ?_))
              rw [List.nil_append] at hsl1
              refine ⟨(by repeat (first | exact Find.here | assumption | apply Find.there | apply Find.far)), ?_⟩
              refine TK.one 5 (by decide +kernel) rfl rfl (T1.appendG ty_23 kd_23 sz_26 by_26 zr_26 rfl (by decide) (by decide) rfl rfl (.inr rfl) hsl1 (.sl (vs := [.int .i64 3, .string (bstr []), .slice (some ⟨b48, 0, none⟩) 2 2]) (RdN.at0 (by repeat (first | exact Find.here | assumption | apply Find.there | apply Find.far))) (by rfl)) (ones rfl) (ts.length + 1) (by rw [ht.len]; show _ + 3 ≤ _; omega) (by omega) (by repeat (first | exact PickS.last | exact PickS.one | exact PickS.here | exact PickS.nil | apply PickS.there | apply PickS.far)) (fun s2 Ls2 hsl2 => ?_))
              have htn : TmsR w0 [(⟨⟨b48, some 26⟩, 0, [.int .i64 kt, .string (bstr nt), .slice at_ ast.length ct_] ++ [.int .i64 1, .string (bstr seN), .slice none 0 0], 2 * 3⟩ : Blk)] (ts ++ [(.mk 3 [] [(.mk kt nt ast), se])]) (vs ++ [.int .i64 3, .string (bstr []), .slice (some ⟨b48, 0, none⟩) 2 2]) := (ht.more Inc.nil).app (TmsR.one hse)
              obtain ⟨an, cn, rfl, hrn⟩ := hsl2.tm htn
              refine ⟨(by repeat (first | exact Find.here | assumption | apply Find.there | apply Find.far)), ?_⟩
              refine TK.one 6 (by decide +kernel) rfl rfl (T1.callC has_19 rfl rfl (New_kn w0 (Ls2 ++ [(⟨⟨b48, some 26⟩, 0, [.int .i64 kt, .string (bstr nt), .slice at_ ast.length ct_] ++ [.int .i64 1, .string (bstr seN), .slice none 0 0], 2 * 3⟩ : Blk)]) rfl hrn (htn.more (Inc.skip Inc.refl)) hcn (by rw [nparts_app, nparts_cons, nparts_nil]; omega)) (by repeat (first | exact Inc.nil | assumption | exact Inc.refl | exact Inc.here | apply Inc.app | apply Inc.cons (by repeat (first | exact Find.here | assumption | apply Find.there | apply Find.far)) | apply Inc.skip1 | apply Inc.skip)) (fun v_ Y2 hY => ?_))
              obtain ⟨kb2, l2, rfl, hkn2, hk2⟩ := hY
              refine ⟨(by repeat (first | exact Find.here | assumption | apply Find.there | apply Find.far)), ?_⟩
              refine TK.take 7 rfl (by decide +kernel) (by decide +kernel) (by decide +kernel) rfl (fun _ _ _ h => h) (fun L_ k1_ => V1.move' (by (conv => lhs; whnf) <;> rfl)) ?_
              refine TK.take 8 rfl (by decide +kernel) (by decide +kernel) (by decide +kernel) rfl (fun _ _ _ h => h) (fun L_ k1_ => V1.extract rfl (by rfl)) ?_
              refine TK.take 9 rfl (by decide +kernel) (by decide +kernel) (by decide +kernel) rfl (fun _ _ _ h => h) (fun L_ k1_ => V1.extract rfl (by rfl)) ?_
              refine TK.take 10 rfl (by decide +kernel) (by decide +kernel) (by decide +kernel) rfl (fun _ _ _ h => h) (fun L_ k1_ => V1.assign' (by (conv => lhs; whnf) <;> rfl)) ?_
              refine TK.take 11 rfl (by decide +kernel) (by decide +kernel) (by decide +kernel) rfl (fun _ _ _ h => h) (fun L_ k1_ => V1.assign' (by (conv => lhs; whnf) <;> rfl)) ?_
              refine TD.done (by decide +kernel) ?_
              exact ⟨(kb2, Y2, Ls2), _, _, trivial, (.cons rfl (.cons rfl .nil)), (.cons rfl (.cons rfl (.cons rfl .nil))), (by repeat (first | exact Take.nil | apply Take.one (by repeat (first | exact Pick.here | apply Pick.there | apply Pick.far)) | apply Take.seg (by repeat (first | exact PickS.last | exact PickS.one | exact PickS.here | exact PickS.nil | apply PickS.there | apply PickS.far)) | exact Take.last (by repeat (first | exact PickS.last | exact PickS.one | exact PickS.here | exact PickS.nil | apply PickS.there | apply PickS.far)))), ⟨l2, rfl, hkn2, hk2⟩⟩
          ·
            rintro ⟨kb2, Y2, Lq⟩ e_ L ⟨l2, rfl, hkn2, hk2⟩
            simp only at hkn2 hk2
            refine T.seq ?_
            refine T.seq ?_
            refine T.live (l := [(3, _), (5, _), (11, _), (13, _), (14, _)]) (.cons (by (conv => lhs; whnf) <;> rfl) (.cons (by (conv => lhs; whnf) <;> rfl) (.cons (by (conv => lhs; whnf) <;> rfl) (.cons (by (conv => lhs; whnf) <;> rfl) (.cons (by (conv => lhs; whnf) <;> rfl) .nil))))) (fun e_ => ?_)
            refine T.region ?_
            refine TL.cons rfl (V1.t (V1.move' (by (conv => lhs; whnf) <;> rfl)) ?_)
            refine TL.cons rfl (V1.t (V1.neI (r := false) rfl rfl (by decide)) ?_)
            refine TL.cons rfl (V1.t (V1.move' (by (conv => lhs; whnf) <;> rfl)) ?_)
            refine TL.cons rfl (V1.t (V1.move' (by (conv => lhs; whnf) <;> rfl)) ?_)
            refine TL.cons rfl (V1.t (V1.eqNil ty_35 rfl rfl) ?_)
            refine TL.cons rfl (V1.t (V1.pick rfl (by (conv => lhs; whnf) <;> rfl)) ?_)
            refine TL.cons rfl (V1.t (V1.move' (by (conv => lhs; whnf) <;> rfl)) ?_)
            refine TL.cons rfl (V1.t (V1.move' (by (conv => lhs; whnf) <;> rfl)) ?_)
            refine TL.cons rfl (V1.t (V1.eqNil ty_35 rfl rfl) ?_)
            refine TL.cons rfl (V1.t (V1.pick rfl (by (conv => lhs; whnf) <;> rfl)) ?_)
            refine TL.nil ?_
            refine T.cond_f rfl ?_
            refine T.skip ?_
            refine T.seq ?_
            refine T.seq ?_
            refine T.drawDet' mixed (by decide +kernel) ?_
            refine Det.cons 0 (ins := [(13, _)]) (.old (by (conv => lhs; whnf) <;> rfl) (by decide +kernel) .nil) (fun e_ => .inl ⟨rfl, V1.t (V1.move' (by (conv => lhs; whnf) <;> rfl)) ⟨rfl, rfl⟩⟩) ?_
            refine Det.cons 1 (ins := [(5, _)]) (.old (by (conv => lhs; whnf) <;> rfl) (by decide +kernel) .nil) (fun e_ => .inl ⟨rfl, V1.t (V1.loadN one_26 sz_26 rfl (RdN.whole (by repeat (first | exact Find.here | assumption | apply Find.there | apply Find.far))) (by rfl)) ⟨rfl, rfl⟩⟩) ?_
            refine Det.cons 2 (ins := [(78, _), (79, _)]) (v := .bool (ansB (ts ++ [(.mk 3 [] [(.mk kt nt ast), se])]) se)) (.new 0 1 (by decide +kernel) rfl rfl (.new 1 0 (by decide +kernel) rfl rfl .nil)) (fun e_ => .inl ⟨rfl, ?_⟩) ?_
            · refine T1.callV has_20 rfl rfl (Makes_d hkn2 hk2 [] (ct := [.int .i64 1, .string (bstr seN), .slice none 0 0]) TmR.atom) (by repeat (first | exact Inc.nil | assumption | exact Inc.refl | exact Inc.here | apply Inc.app | apply Inc.cons (by repeat (first | exact Find.here | assumption | apply Find.there | apply Find.far)) | apply Inc.skip1 | apply Inc.skip)) (fun v_ hv => ?_)
              obtain rfl := hv
              exact ⟨rfl, rfl⟩
            refine Det.cons 3 (ins := [(11, _)]) (.old (by (conv => lhs; whnf) <;> rfl) (by decide +kernel) .nil) (fun e_ => .inl ⟨rfl, V1.t (V1.move' (by (conv => lhs; whnf) <;> rfl)) ⟨rfl, rfl⟩⟩) ?_
            refine Det.cons 4 (ins := [(3, _)]) (.old (by (conv => lhs; whnf) <;> rfl) (by decide +kernel) .nil) (fun e_ => .inl ⟨rfl, V1.t (V1.loadN one_26 sz_26 rfl (RdN.whole (by repeat (first | exact Find.here | assumption | apply Find.there | apply Find.far))) (by rfl)) ⟨rfl, rfl⟩⟩) ?_
            refine Det.cons 5 (ins := [(81, _), (82, _)]) (v := .bool (ansB ts (.mk kt nt ast))) (.new 3 1 (by decide +kernel) rfl rfl (.new 4 0 (by decide +kernel) rfl rfl .nil)) (fun e_ => .inl ⟨rfl, ?_⟩) ?_
            · refine T1.callV has_20 rfl rfl (Makes_d hkn1 hk1 [] (ct := [.int .i64 kt, .string (bstr nt), .slice at_ ast.length ct_]) hct) (by repeat (first | exact Inc.nil | assumption | exact Inc.refl | exact Inc.here | apply Inc.app | apply Inc.cons (by repeat (first | exact Find.here | assumption | apply Find.there | apply Find.far)) | apply Inc.skip1 | apply Inc.skip)) (fun v_ hv => ?_)
              obtain rfl := hv
              exact ⟨rfl, rfl⟩
            refine Det.cons 6 (ins := [(80, _), (83, _)]) (.new 2 3 (by decide +kernel) rfl rfl (.new 5 0 (by decide +kernel) rfl rfl .nil)) (fun e_ => .inl ⟨rfl, V1.t (V1.neB (r := false) ty_4 rfl rfl (by rw [ansB_eq (sealed_opens hk1 hcts hck hft hfk)]; simp)) ⟨rfl, rfl⟩⟩) ?_
            refine Det.nil 7 (l := [(3, _), (5, _), (13, _), (84, _)]) (.old (by (conv => lhs; whnf) <;> rfl) (by decide +kernel) (.old (by (conv => lhs; whnf) <;> rfl) (by decide +kernel) (.old (by (conv => lhs; whnf) <;> rfl) (by decide +kernel) (.new 6 0 (by decide +kernel) rfl rfl .nil)))) (fun e_ => ?_)
            refine T.cond_f rfl ?_
            refine T.skip ?_
            refine T.seq ?_
            refine T.region ?_
            refine TL.cons rfl (V1.t (V1.move' (by (conv => lhs; whnf) <;> rfl)) ?_)
            refine TL.cons rfl (V1.t (V1.loadN one_26 sz_26 rfl (RdN.whole (by repeat (first | exact Find.here | assumption | apply Find.there | apply Find.far))) (by rfl)) ?_)
            refine TL.cons rfl (T1.buildOne (cs := [.int .i64 kt, .string (bstr nt), .slice at_ ast.length ct_]) ty_23 sz_26 zr_26 (by decide) rfl (by rfl) (fun b87 => ?_))
            refine TL.cons rfl (T1.callM (X := Y2) has_26 rfl rfl (Learn_k hkn2 hk2 [⟨⟨b87, some 26⟩, 0, [.int .i64 kt, .string (bstr nt), .slice at_ ast.length ct_], 3⟩] (us := [(.mk kt nt ast)]) rfl (RowR.own (List.mem_cons_self ..) rfl) (TmsR.one (hct.more Inc.nil)) (chk_of hcn (by intro t ht; rw [List.mem_singleton] at ht; subst ht; exact hck)) (by rw [nparts_app, nparts_app, nparts_cons, nparts_nil, nparts_cons, nparts_nil]; omega)) (by repeat (first | exact Take.nil | apply Take.one (by repeat (first | exact Pick.here | apply Pick.there | apply Pick.far)) | apply Take.seg (by repeat (first | exact PickS.last | exact PickS.one | exact PickS.here | exact PickS.nil | apply PickS.there | apply PickS.far)) | exact Take.last (by repeat (first | exact PickS.last | exact PickS.one | exact PickS.here | exact PickS.nil | apply PickS.there | apply PickS.far)))) (by repeat (first | exact Inc.nil | assumption | exact Inc.refl | exact Inc.here | apply Inc.app | apply Inc.cons (by repeat (first | exact Find.here | assumption | apply Find.there | apply Find.far)) | apply Inc.skip1 | apply Inc.skip)) (fun v_ Y3 hY => ?_))
            obtain ⟨l3, rfl, hkn3, hk3⟩ := hY
            refine TL.cons rfl (V1.t (V1.eqI (r := true) rfl rfl (by decide)) ?_)
            refine TL.cons rfl (V1.t (V1.move' (by (conv => lhs; whnf) <;> rfl)) ?_)
            refine TL.cons rfl (V1.t (V1.move' (by (conv => lhs; whnf) <;> rfl)) ?_)
            refine TL.cons rfl (V1.t (V1.loadN one_26 sz_26 rfl (RdN.whole (by repeat (first | exact Find.here | assumption | apply Find.there | apply Find.far))) (by rfl)) ?_)
            refine TL.cons rfl (T1.callV has_20 rfl rfl (Makes_k hkn3 hk3 [] (ct := [.int .i64 1, .string (bstr seN), .slice none 0 0]) TmR.atom) (by repeat (first | exact Inc.nil | assumption | exact Inc.refl | exact Inc.here | apply Inc.app | apply Inc.cons (by repeat (first | exact Find.here | assumption | apply Find.there | apply Find.far)) | apply Inc.skip1 | apply Inc.skip)) (fun v_ hv => ?_))
            obtain ⟨r, rfl, hr_⟩ := hv
            obtain rfl : r = true := hr_.2 (sealed_after)
            refine TL.cons rfl (V1.t (V1.pick rfl (by (conv => lhs; whnf) <;> rfl)) ?_)
            refine TL.cons rfl (V1.t (V1.assign' (by (conv => lhs; whnf) <;> rfl)) ?_)
            refine TL.nil ?_
            refine T.ret ?_
            exact ⟨_, G, _, .cons (.tmp (by (conv => lhs; whnf) <;> rfl)) .nil, (by repeat (first | exact Take.nil | apply Take.one (by repeat (first | exact Pick.here | apply Pick.there | apply Pick.far)) | apply Take.seg (by repeat (first | exact PickS.last | exact PickS.one | exact PickS.here | exact PickS.nil | apply PickS.there | apply PickS.far)) | exact Take.last (by repeat (first | exact PickS.last | exact PickS.one | exact PickS.here | exact PickS.nil | apply PickS.there | apply PickS.far)))), rfl, rfl⟩
  ·
    refine TL.cons rfl (V1.t (V1.not rfl rfl) ?_)
    refine TL.nil ?_
    refine T.cond_t rfl ?_
    refine T.seq ?_
    refine T.region ?_
    refine TL.cons rfl (V1.t (V1.assign' (by (conv => lhs; whnf) <;> rfl)) ?_)
    refine TL.nil ?_
    refine T.ret ?_
    exact ⟨_, G, _, .cons (.tmp (by (conv => lhs; whnf) <;> rfl)) .nil, (by repeat (first | exact Take.nil | apply Take.one (by repeat (first | exact Pick.here | apply Pick.there | apply Pick.far)) | apply Take.seg (by repeat (first | exact PickS.last | exact PickS.one | exact PickS.here | exact PickS.nil | apply PickS.there | apply PickS.far)) | exact Take.last (by repeat (first | exact PickS.last | exact PickS.one | exact PickS.here | exact PickS.nil | apply PickS.there | apply PickS.far)))), rfl, rfl⟩

end Go.Proofs.YtlpkcbkflfbclaaDoor.S
