/- Who knows a pair knows just what one knows who knows both. -/
import Derived.Test.YtlpkcbkflfbclaaDoorT15
import Derived.Test.YtlpkcbkflfbclaaDoorTmSpec6
namespace Go.Proofs.YtlpkcbkflfbclaaDoor.S
open Go.RowKit

set_option maxRecDepth 100000 in
set_option maxHeartbeats 8000000 in
theorem KnowsPairs_any (w0 : World) {ts : List Tm} {a : Option Addr} {c : Nat} {vs : List Value} (hr : RowR w0 [] 3 (.slice a ts.length c) ts.length vs) (ht : TmsR w0 [] ts vs) (hb : ts.length * 48 ≤ 140737488351232) {u v : Tm} {cu cv : List Value} (hcu : TmR w0 [] u cu) (hcv : TmR w0 [] v cv) : FnV P 10 [.slice a ts.length c, .agg cu.toArray, .agg cv.toArray] w0 [] (fun v => v = .bool true) := by
  obtain ⟨ku, nu, asu⟩ := u
  obtain ⟨au_, cu_, vsu, rfl, hru, hlu, htu⟩ := hcu.inv
  obtain ⟨kv, nv, asv⟩ := v
  obtain ⟨av_, cv_, vsv, rfl, hrv, hlv, htv⟩ := hcv.inv
  refine FnV.of 136 [.tmp 6] Go.Proofs.Tryd.func10 rfl rfl rfl rfl (fun G hG => ?_)
  refine T.seq ?_
  refine T.region ?_
  refine TL.cons rfl (T1.boxN 3 rfl rfl (fun b4 => ?_))
  refine TL.cons rfl (T1.boxN 3 rfl rfl (fun b5 => ?_))
  refine TL.cons rfl (V1.t (V1.assign' (by (conv => lhs; whnf) <;> rfl)) ?_)
  refine TL.nil ?_
  refine T.seq ?_
  refine T.seq ?_
  refine T.region ?_
  refine TL.cons rfl (T1.callV has_24 rfl rfl (opens_any w0) (by repeat (first | exact Inc.nil | assumption | exact Inc.refl | exact Inc.here | apply Inc.app | apply Inc.cons (by repeat (first | exact Find.here | assumption | apply Find.there | apply Find.far)) | apply Inc.skip1 | apply Inc.skip)) (fun v_ hv => ?_))
  obtain rfl := hv
  refine TL.cons rfl (V1.t (V1.not rfl rfl) ?_)
  refine TL.nil ?_
  refine T.cond_f rfl ?_
  refine T.skip ?_
  refine T.cut (σ := Unit) (l0 := [(0, _), (4, _), (5, _)]) (fun x => []) (fun _ L => L = ⟨b5, 0, [.int .i64 kv, .string (bstr nv), .slice av_ asv.length cv_], 3⟩ :: ⟨b4, 0, [.int .i64 ku, .string (bstr nu), .slice au_ asu.length cu_], 3⟩ :: G ∧ (∀ x ∈ ts ++ [(Tm.mk ku nu asu)] ++ [(Tm.mk kv nv asv)], chk x = 0) ∧ nparts (ts ++ [(Tm.mk ku nu asu)] ++ [(Tm.mk kv nv asv)]) ≤ 60) (.cons (by (conv => lhs; whnf) <;> rfl) (.cons (by (conv => lhs; whnf) <;> rfl) (.cons (by (conv => lhs; whnf) <;> rfl) .nil))) ?_ ?_
  ·
    refine T.seq ?_
    refine T.drawK (fun L_ => Find L_ ⟨b4, 0, [.int .i64 ku, .string (bstr nu), .slice au_ asu.length cu_], 3⟩ ∧ Find L_ ⟨b5, 0, [.int .i64 kv, .string (bstr nv), .slice av_ asv.length cv_], 3⟩) mixed ⟨(by repeat (first | exact Find.here | assumption | apply Find.there | apply Find.far)), (by repeat (first | exact Find.here | assumption | apply Find.there | apply Find.far))⟩ ?_
    refine TK.take 1 rfl (by decide +kernel) (by decide +kernel) (by decide +kernel) rfl (fun _ _ _ h => h) (fun L_ ⟨k1_, k2_⟩ => V1.move' (by (conv => lhs; whnf) <;> rfl)) ?_
    refine TK.take 3 rfl (by decide +kernel) (by decide +kernel) (by decide +kernel) rfl (fun _ _ _ h => h) (fun L_ ⟨k1_, k2_⟩ => V1.loadN one_26 sz_26 rfl (RdN.whole (by repeat (first | exact Find.here | assumption | apply Find.there | apply Find.far))) (by rfl)) ?_
    refine TK.take 6 rfl (by decide +kernel) (by decide +kernel) (by decide +kernel) rfl (fun _ _ _ h => h) (fun L_ ⟨k1_, k2_⟩ => V1.loadN one_26 sz_26 rfl (RdN.whole (by repeat (first | exact Find.here | assumption | apply Find.there | apply Find.far))) (by rfl)) ?_
    refine TK.two 0 4 (by decide +kernel) rfl rfl rfl rfl (T1.buildNone ty_23 sz_26 zr_26 (fun b21 => ?_)) (T1.buildOne (cs := [.int .i64 ku, .string (bstr nu), .slice au_ asu.length cu_]) ty_23 sz_26 zr_26 (by decide) rfl (by rfl) (fun b25 => ?_))
    ·
      refine ⟨⟨(by repeat (first | exact Find.here | assumption | apply Find.there | apply Find.far)), (by repeat (first | exact Find.here | assumption | apply Find.there | apply Find.far))⟩, ?_⟩
      refine TK.two 2 4 (by decide +kernel) rfl rfl rfl rfl (T1.appendG ty_23 kd_23 sz_26 by_26 zr_26 rfl (by decide) (by decide) rfl rfl (.inr rfl) (SlG.none0 b21) (hr.src _ rfl rfl _ (by repeat (first | exact Inc.nil | assumption | exact Inc.refl | exact Inc.here | apply Inc.app | apply Inc.cons (by repeat (first | exact Find.here | assumption | apply Find.there | apply Find.far)) | apply Inc.skip1 | apply Inc.skip))) ht.ones (ts.length) (by rw [ht.len]; simp) (by omega) (by repeat (first | exact PickS.last | exact PickS.one | exact PickS.here | exact PickS.nil | apply PickS.there | apply PickS.far)) (fun s1 Ls1 hsl1 => ?_)) (T1.buildOne (cs := [.int .i64 ku, .string (bstr nu), .slice au_ asu.length cu_]) ty_23 sz_26 zr_26 (by decide) rfl (by rfl) (fun b25 => ?_))
      ·
        rw [List.nil_append] at hsl1
        refine ⟨⟨(by repeat (first | exact Find.here | assumption | apply Find.there | apply Find.far)), (by repeat (first | exact Find.here | assumption | apply Find.there | apply Find.far))⟩, ?_⟩
        refine TK.one 4 (by decide +kernel) rfl rfl (T1.buildOne (cs := [.int .i64 ku, .string (bstr nu), .slice au_ asu.length cu_]) ty_23 sz_26 zr_26 (by decide) rfl (by rfl) (fun b25 => ?_))
        refine ⟨⟨(by repeat (first | exact Find.here | assumption | apply Find.there | apply Find.far)), (by repeat (first | exact Find.here | assumption | apply Find.there | apply Find.far))⟩, ?_⟩
        refine TK.one 5 (by decide +kernel) rfl rfl (T1.appendG ty_23 kd_23 sz_26 by_26 zr_26 rfl (by decide) (by decide) rfl rfl (.inr rfl) hsl1 (.sl (vs := [.int .i64 ku, .string (bstr nu), .slice au_ asu.length cu_]) (RdN.at0 (by repeat (first | exact Find.here | assumption | apply Find.there | apply Find.far))) (by rfl)) (ones rfl) (ts.length + 1) (by rw [ht.len]; show _ + 3 ≤ _; omega) (by omega) (by repeat (first | exact PickS.last | exact PickS.one | exact PickS.here | exact PickS.nil | apply PickS.there | apply PickS.far)) (fun s2 Ls2 hsl2 => ?_))
        have htu : TmsR w0 [] (ts ++ [(Tm.mk ku nu asu)]) (vs ++ [.int .i64 ku, .string (bstr nu), .slice au_ asu.length cu_]) := ht.app (TmsR.one hcu)
        obtain ⟨au, cu, rfl, hru⟩ := hsl2.tm htu
        refine ⟨⟨(by repeat (first | exact Find.here | assumption | apply Find.there | apply Find.far)), (by repeat (first | exact Find.here | assumption | apply Find.there | apply Find.far))⟩, ?_⟩
        refine TK.one 7 (by decide +kernel) rfl rfl (T1.callV has_27 rfl rfl (few_any w0 (Ls2 ++ []) rfl hru (htu.more Inc.nil) (t := (Tm.mk kv nv asv)) (hcv.more Inc.nil) (by rw [List.length_append, List.length_singleton]; omega)) (by repeat (first | exact Inc.nil | assumption | exact Inc.refl | exact Inc.here | apply Inc.app | apply Inc.cons (by repeat (first | exact Find.here | assumption | apply Find.there | apply Find.far)) | apply Inc.skip1 | apply Inc.skip)) (fun v_ hv => ?_))
        obtain ⟨r, rfl, hfew⟩ := hv
        rcases Bool.eq_false_or_eq_true r with hrb | hrb <;> subst hrb
        ·
          obtain ⟨hcs, hnp⟩ := hfew.1 rfl
          refine ⟨⟨(by repeat (first | exact Find.here | assumption | apply Find.there | apply Find.far)), (by repeat (first | exact Find.here | assumption | apply Find.there | apply Find.far))⟩, ?_⟩
          refine TK.take 8 rfl (by decide +kernel) (by decide +kernel) (by decide +kernel) rfl (fun _ _ _ h => h) (fun L_ ⟨k1_, k2_⟩ => V1.not rfl rfl) ?_
          refine TD.done (by decide +kernel) ?_
          refine T.cond_f rfl ?_
          refine T.skip ?_
          exact ⟨(), _, _, trivial, .nil, (.cons rfl (.cons rfl (.cons rfl .nil))), (by repeat (first | exact Take.nil | apply Take.one (by repeat (first | exact Pick.here | apply Pick.there | apply Pick.far)) | apply Take.seg (by repeat (first | exact PickS.last | exact PickS.one | exact PickS.here | exact PickS.nil | apply PickS.there | apply PickS.far)) | exact Take.last (by repeat (first | exact PickS.last | exact PickS.one | exact PickS.here | exact PickS.nil | apply PickS.there | apply PickS.far)))), ⟨rfl, hcs, hnp⟩⟩
        ·
          refine ⟨⟨(by repeat (first | exact Find.here | assumption | apply Find.there | apply Find.far)), (by repeat (first | exact Find.here | assumption | apply Find.there | apply Find.far))⟩, ?_⟩
          refine TK.take 8 rfl (by decide +kernel) (by decide +kernel) (by decide +kernel) rfl (fun _ _ _ h => h) (fun L_ ⟨k1_, k2_⟩ => V1.not rfl rfl) ?_
          refine TD.done (by decide +kernel) ?_
          refine T.cond_t rfl ?_
          refine T.seq ?_
          refine T.region ?_
          refine TL.cons rfl (V1.t (V1.assign' (by (conv => lhs; whnf) <;> rfl)) ?_)
          refine TL.nil ?_
          refine T.ret ?_
          exact ⟨_, G, _, .cons (.tmp (by (conv => lhs; whnf) <;> rfl)) .nil, (by repeat (first | exact Take.nil | apply Take.one (by repeat (first | exact Pick.here | apply Pick.there | apply Pick.far)) | apply Take.seg (by repeat (first | exact PickS.last | exact PickS.one | exact PickS.here | exact PickS.nil | apply PickS.there | apply PickS.far)) | exact Take.last (by repeat (first | exact PickS.last | exact PickS.one | exact PickS.here | exact PickS.nil | apply PickS.there | apply PickS.far)))), rfl, rfl⟩
      ·
        refine ⟨⟨(by repeat (first | exact Find.here | assumption | apply Find.there | apply Find.far)), (by repeat (first | exact Find.here | assumption | apply Find.there | apply Find.far))⟩, ?_⟩
        refine TK.one 2 (by decide +kernel) rfl rfl (T1.appendG ty_23 kd_23 sz_26 by_26 zr_26 rfl (by decide) (by decide) rfl rfl (.inr rfl) (SlG.none0 b21) (hr.src _ rfl rfl _ (by repeat (first | exact Inc.nil | assumption | exact Inc.refl | exact Inc.here | apply Inc.app | apply Inc.cons (by repeat (first | exact Find.here | assumption | apply Find.there | apply Find.far)) | apply Inc.skip1 | apply Inc.skip))) ht.ones (ts.length) (by rw [ht.len]; simp) (by omega) (by repeat (first | exact PickS.last | exact PickS.one | exact PickS.here | exact PickS.nil | apply PickS.there | apply PickS.far)) (fun s1 Ls1 hsl1 => ?_))
        rw [List.nil_append] at hsl1
        refine ⟨⟨(by repeat (first | exact Find.here | assumption | apply Find.there | apply Find.far)), (by repeat (first | exact Find.here | assumption | apply Find.there | apply Find.far))⟩, ?_⟩
        refine TK.one 5 (by decide +kernel) rfl rfl (T1.appendG ty_23 kd_23 sz_26 by_26 zr_26 rfl (by decide) (by decide) rfl rfl (.inr rfl) hsl1 (.sl (vs := [.int .i64 ku, .string (bstr nu), .slice au_ asu.length cu_]) (RdN.at0 (by repeat (first | exact Find.here | assumption | apply Find.there | apply Find.far))) (by rfl)) (ones rfl) (ts.length + 1) (by rw [ht.len]; show _ + 3 ≤ _; omega) (by omega) (by repeat (first | exact PickS.last | exact PickS.one | exact PickS.here | exact PickS.nil | apply PickS.there | apply PickS.far)) (fun s2 Ls2 hsl2 => ?_))
        have htu : TmsR w0 [] (ts ++ [(Tm.mk ku nu asu)]) (vs ++ [.int .i64 ku, .string (bstr nu), .slice au_ asu.length cu_]) := ht.app (TmsR.one hcu)
        obtain ⟨au, cu, rfl, hru⟩ := hsl2.tm htu
        refine ⟨⟨(by repeat (first | exact Find.here | assumption | apply Find.there | apply Find.far)), (by repeat (first | exact Find.here | assumption | apply Find.there | apply Find.far))⟩, ?_⟩
        refine TK.one 7 (by decide +kernel) rfl rfl (T1.callV has_27 rfl rfl (few_any w0 (Ls2 ++ []) rfl hru (htu.more Inc.nil) (t := (Tm.mk kv nv asv)) (hcv.more Inc.nil) (by rw [List.length_append, List.length_singleton]; omega)) (by repeat (first | exact Inc.nil | assumption | exact Inc.refl | exact Inc.here | apply Inc.app | apply Inc.cons (by repeat (first | exact Find.here | assumption | apply Find.there | apply Find.far)) | apply Inc.skip1 | apply Inc.skip)) (fun v_ hv => ?_))
        obtain ⟨r, rfl, hfew⟩ := hv
        rcases Bool.eq_false_or_eq_true r with hrb | hrb <;> subst hrb
        ·
          obtain ⟨hcs, hnp⟩ := hfew.1 rfl
          refine ⟨⟨(by repeat (first | exact Find.here | assumption | apply Find.there | apply Find.far)), (by repeat (first | exact Find.here | assumption | apply Find.there | apply Find.far))⟩, ?_⟩
          refine TK.take 8 rfl (by decide +kernel) (by decide +kernel) (by decide +kernel) rfl (fun _ _ _ h => h) (fun L_ ⟨k1_, k2_⟩ => V1.not rfl rfl) ?_
          refine TD.done (by decide +kernel) ?_
          refine T.cond_f rfl ?_
          refine T.skip ?_
          exact ⟨(), _, _, trivial, .nil, (.cons rfl (.cons rfl (.cons rfl .nil))), (by repeat (first | exact Take.nil | apply Take.one (by repeat (first | exact Pick.here | apply Pick.there | apply Pick.far)) | apply Take.seg (by repeat (first | exact PickS.last | exact PickS.one | exact PickS.here | exact PickS.nil | apply PickS.there | apply PickS.far)) | exact Take.last (by repeat (first | exact PickS.last | exact PickS.one | exact PickS.here | exact PickS.nil | apply PickS.there | apply PickS.far)))), ⟨rfl, hcs, hnp⟩⟩
        ·
          refine ⟨⟨(by repeat (first | exact Find.here | assumption | apply Find.there | apply Find.far)), (by repeat (first | exact Find.here | assumption | apply Find.there | apply Find.far))⟩, ?_⟩
          refine TK.take 8 rfl (by decide +kernel) (by decide +kernel) (by decide +kernel) rfl (fun _ _ _ h => h) (fun L_ ⟨k1_, k2_⟩ => V1.not rfl rfl) ?_
          refine TD.done (by decide +kernel) ?_
          refine T.cond_t rfl ?_
          refine T.seq ?_
          refine T.region ?_
          refine TL.cons rfl (V1.t (V1.assign' (by (conv => lhs; whnf) <;> rfl)) ?_)
          refine TL.nil ?_
          refine T.ret ?_
          exact ⟨_, G, _, .cons (.tmp (by (conv => lhs; whnf) <;> rfl)) .nil, (by repeat (first | exact Take.nil | apply Take.one (by repeat (first | exact Pick.here | apply Pick.there | apply Pick.far)) | apply Take.seg (by repeat (first | exact PickS.last | exact PickS.one | exact PickS.here | exact PickS.nil | apply PickS.there | apply PickS.far)) | exact Take.last (by repeat (first | exact PickS.last | exact PickS.one | exact PickS.here | exact PickS.nil | apply PickS.there | apply PickS.far)))), rfl, rfl⟩
    ·
      refine ⟨⟨(by repeat (first | exact Find.here | assumption | apply Find.there | apply Find.far)), (by repeat (first | exact Find.here | assumption | apply Find.there | apply Find.far))⟩, ?_⟩
      refine TK.one 0 (by decide +kernel) rfl rfl (T1.buildNone ty_23 sz_26 zr_26 (fun b21 => ?_))
      refine ⟨⟨(by repeat (first | exact Find.here | assumption | apply Find.there | apply Find.far)), (by repeat (first | exact Find.here | assumption | apply Find.there | apply Find.far))⟩, ?_⟩
      refine TK.one 2 (by decide +kernel) rfl rfl (T1.appendG ty_23 kd_23 sz_26 by_26 zr_26 rfl (by decide) (by decide) rfl rfl (.inr rfl) (SlG.none0 b21) (hr.src _ rfl rfl _ (by repeat (first | exact Inc.nil | assumption | exact Inc.refl | exact Inc.here | apply Inc.app | apply Inc.cons (by repeat (first | exact Find.here | assumption | apply Find.there | apply Find.far)) | apply Inc.skip1 | apply Inc.skip))) ht.ones (ts.length) (by rw [ht.len]; simp) (by omega) (by repeat (first | exact PickS.last | exact PickS.one | exact PickS.here | exact PickS.nil | apply PickS.there | apply PickS.far)) (fun s1 Ls1 hsl1 => ?_))
      rw [List.nil_append] at hsl1
      refine ⟨⟨(by repeat (first | exact Find.here | assumption | apply Find.there | apply Find.far)), (by repeat (first | exact Find.here | assumption | apply Find.there | apply Find.far))⟩, ?_⟩
      refine TK.one 5 (by decide +kernel) rfl rfl (T1.appendG ty_23 kd_23 sz_26 by_26 zr_26 rfl (by decide) (by decide) rfl rfl (.inr rfl) hsl1 (.sl (vs := [.int .i64 ku, .string (bstr nu), .slice au_ asu.length cu_]) (RdN.at0 (by repeat (first | exact Find.here | assumption | apply Find.there | apply Find.far))) (by rfl)) (ones rfl) (ts.length + 1) (by rw [ht.len]; show _ + 3 ≤ _; omega) (by omega) (by repeat (first | exact PickS.last | exact PickS.one | exact PickS.here | exact PickS.nil | apply PickS.there | apply PickS.far)) (fun s2 Ls2 hsl2 => ?_))
      have htu : TmsR w0 [] (ts ++ [(Tm.mk ku nu asu)]) (vs ++ [.int .i64 ku, .string (bstr nu), .slice au_ asu.length cu_]) := ht.app (TmsR.one hcu)
      obtain ⟨au, cu, rfl, hru⟩ := hsl2.tm htu
      refine ⟨⟨(by repeat (first | exact Find.here | assumption | apply Find.there | apply Find.far)), (by repeat (first | exact Find.here | assumption | apply Find.there | apply Find.far))⟩, ?_⟩
      refine TK.one 7 (by decide +kernel) rfl rfl (T1.callV has_27 rfl rfl (few_any w0 (Ls2 ++ []) rfl hru (htu.more Inc.nil) (t := (Tm.mk kv nv asv)) (hcv.more Inc.nil) (by rw [List.length_append, List.length_singleton]; omega)) (by repeat (first | exact Inc.nil | assumption | exact Inc.refl | exact Inc.here | apply Inc.app | apply Inc.cons (by repeat (first | exact Find.here | assumption | apply Find.there | apply Find.far)) | apply Inc.skip1 | apply Inc.skip)) (fun v_ hv => ?_))
      obtain ⟨r, rfl, hfew⟩ := hv
      rcases Bool.eq_false_or_eq_true r with hrb | hrb <;> subst hrb
      ·
        obtain ⟨hcs, hnp⟩ := hfew.1 rfl
        refine ⟨⟨(by repeat (first | exact Find.here | assumption | apply Find.there | apply Find.far)), (by repeat (first | exact Find.here | assumption | apply Find.there | apply Find.far))⟩, ?_⟩
        refine TK.take 8 rfl (by decide +kernel) (by decide +kernel) (by decide +kernel) rfl (fun _ _ _ h => h) (fun L_ ⟨k1_, k2_⟩ => V1.not rfl rfl) ?_
        refine TD.done (by decide +kernel) ?_
        refine T.cond_f rfl ?_
        refine T.skip ?_
        exact ⟨(), _, _, trivial, .nil, (.cons rfl (.cons rfl (.cons rfl .nil))), (by repeat (first | exact Take.nil | apply Take.one (by repeat (first | exact Pick.here | apply Pick.there | apply Pick.far)) | apply Take.seg (by repeat (first | exact PickS.last | exact PickS.one | exact PickS.here | exact PickS.nil | apply PickS.there | apply PickS.far)) | exact Take.last (by repeat (first | exact PickS.last | exact PickS.one | exact PickS.here | exact PickS.nil | apply PickS.there | apply PickS.far)))), ⟨rfl, hcs, hnp⟩⟩
      ·
        refine ⟨⟨(by repeat (first | exact Find.here | assumption | apply Find.there | apply Find.far)), (by repeat (first | exact Find.here | assumption | apply Find.there | apply Find.far))⟩, ?_⟩
        refine TK.take 8 rfl (by decide +kernel) (by decide +kernel) (by decide +kernel) rfl (fun _ _ _ h => h) (fun L_ ⟨k1_, k2_⟩ => V1.not rfl rfl) ?_
        refine TD.done (by decide +kernel) ?_
        refine T.cond_t rfl ?_
        refine T.seq ?_
        refine T.region ?_
        refine TL.cons rfl (V1.t (V1.assign' (by (conv => lhs; whnf) <;> rfl)) ?_)
        refine TL.nil ?_
        refine T.ret ?_
        exact ⟨_, G, _, .cons (.tmp (by (conv => lhs; whnf) <;> rfl)) .nil, (by repeat (first | exact Take.nil | apply Take.one (by repeat (first | exact Pick.here | apply Pick.there | apply Pick.far)) | apply Take.seg (by repeat (first | exact PickS.last | exact PickS.one | exact PickS.here | exact PickS.nil | apply PickS.there | apply PickS.far)) | exact Take.last (by repeat (first | exact PickS.last | exact PickS.one | exact PickS.here | exact PickS.nil | apply PickS.there | apply PickS.far)))), rfl, rfl⟩
  ·
    rintro _ e_ L ⟨rfl, hcs, hnp⟩
    have hcts : ∀ t ∈ ts, chk t = 0 := fun t ht => hcs t (by simp [ht])
    have hcu0 : chk (Tm.mk ku nu asu) = 0 := hcs _ (by simp)
    have hcv0 : chk (Tm.mk kv nv asv) = 0 := hcs _ (by simp)
    rw [nparts_app, nparts_app, nparts_cons, nparts_nil, nparts_cons, nparts_nil] at hnp
    refine T.seq ?_
    refine T.region ?_
    refine TL.cons rfl (V1.t (V1.loadN one_26 sz_26 rfl (RdN.whole (by repeat (first | exact Find.here | assumption | apply Find.there | apply Find.far))) (by rfl)) ?_)
    refine TL.cons rfl (V1.t (V1.loadN one_26 sz_26 rfl (RdN.whole (by repeat (first | exact Find.here | assumption | apply Find.there | apply Find.far))) (by rfl)) ?_)
    refine TL.cons rfl (T1.buildTwo (cs := [.int .i64 ku, .string (bstr nu), .slice au_ asu.length cu_]) (ds := [.int .i64 kv, .string (bstr nv), .slice av_ asv.length cv_]) ty_23 sz_26 zr_26 (by decide) rfl rfl (by rfl) (by rfl) (fun b32 => ?_))
    refine TL.cons rfl (T1.callC has_31 rfl rfl (Pairs_any w0 [(⟨⟨b32, some 26⟩, 0, [.int .i64 ku, .string (bstr nu), .slice au_ asu.length cu_] ++ [.int .i64 kv, .string (bstr nv), .slice av_ asv.length cv_], 2 * 3⟩ : Blk)] (ts := [(Tm.mk ku nu asu), (Tm.mk kv nv asv)]) (RowR.own (List.mem_cons_self ..) rfl) (TmsR.cons (hcu.more Inc.nil) (TmsR.one (hcv.more Inc.nil))) (by show 2 ≤ maxN; decide)) (by repeat (first | exact Inc.nil | assumption | exact Inc.refl | exact Inc.here | apply Inc.app | apply Inc.cons (by repeat (first | exact Find.here | assumption | apply Find.there | apply Find.far)) | apply Inc.skip1 | apply Inc.skip)) (fun v_ Yr hY => ?_))
    obtain ⟨cp, rfl, hcp0⟩ := hY
    have hcp : TmR w0 (Yr ++ [(⟨⟨b32, some 26⟩, 0, [.int .i64 ku, .string (bstr nu), .slice au_ asu.length cu_] ++ [.int .i64 kv, .string (bstr nv), .slice av_ asv.length cv_], 2 * 3⟩ : Blk)]) (Tm.mk 2 [] [(Tm.mk ku nu asu), (Tm.mk kv nv asv)]) cp := hcp0
    obtain ⟨ar, cr, rfl⟩ : ∃ a c, cp = [.int .i64 2, .string (bstr []), .slice a 2 c] := by obtain ⟨a, c, _, e, _⟩ := hcp.inv; exact ⟨a, c, e⟩
    have hnpp : npart (Tm.mk 2 [] [(Tm.mk ku nu asu), (Tm.mk kv nv asv)]) ≤ npart (Tm.mk ku nu asu) + npart (Tm.mk kv nv asv) + 1 := by have : npart (Tm.mk 2 [] [(Tm.mk ku nu asu), (Tm.mk kv nv asv)]) ≤ nparts [(Tm.mk ku nu asu), (Tm.mk kv nv asv)] + 1 := nparts_comp; rw [nparts_cons, nparts_cons, nparts_nil] at this; omega
    have hnps : npart (Tm.mk 8 [] [(Tm.mk ku nu asu), (Tm.mk kv nv asv)]) ≤ npart (Tm.mk ku nu asu) + npart (Tm.mk kv nv asv) + 1 := by have : npart (Tm.mk 8 [] [(Tm.mk ku nu asu), (Tm.mk kv nv asv)]) ≤ nparts [(Tm.mk ku nu asu), (Tm.mk kv nv asv)] + 1 := nparts_comp; rw [nparts_cons, nparts_cons, nparts_nil] at this; omega
    refine TL.cons rfl (T1.allocN 3 zr_26 rfl (fun b7 => ?_))
    refine TL.cons rfl (T1.storeN rfl rfl sz_26 (ones rfl) (by repeat (first | exact Sub.one | apply Sub.there | apply Sub.far)) (by rfl) (by rfl) ?_)
    refine TL.nil ?_
    refine T.seq ?_
    refine T.region ?_
    refine TL.cons rfl (V1.t (V1.loadN one_26 sz_26 rfl (RdN.whole (by repeat (first | exact Find.here | assumption | apply Find.there | apply Find.far))) (by rfl)) ?_)
    refine TL.cons rfl (V1.t (V1.loadN one_26 sz_26 rfl (RdN.whole (by repeat (first | exact Find.here | assumption | apply Find.there | apply Find.far))) (by rfl)) ?_)
    refine TL.cons rfl (T1.buildTwo (cs := [.int .i64 ku, .string (bstr nu), .slice au_ asu.length cu_]) (ds := [.int .i64 kv, .string (bstr nv), .slice av_ asv.length cv_]) ty_23 sz_26 zr_26 (by decide) rfl rfl (by rfl) (by rfl) (fun b36 => ?_))
    refine TL.cons rfl (V1.t (V1.buildF pl_26 zr_26 (.one rfl (by (conv => lhs; whnf) <;> rfl) rfl (.one rfl (by (conv => lhs; whnf) <;> rfl) rfl .nil)) (by repeat (first | exact FillL.nil | exact SetN.done | apply SetN.here | apply SetN.there | apply FillL.cons))) ?_)
    refine TL.cons rfl (T1.allocN 3 zr_26 rfl (fun b8 => ?_))
    refine TL.cons rfl (T1.storeN rfl rfl sz_26 (ones rfl) (by repeat (first | exact Sub.one | apply Sub.there | apply Sub.far)) (by rfl) (by rfl) ?_)
    have hsg : TmR w0 [(⟨⟨b36, some 26⟩, 0, [.int .i64 ku, .string (bstr nu), .slice au_ asu.length cu_] ++ [.int .i64 kv, .string (bstr nv), .slice av_ asv.length cv_], 2 * 3⟩ : Blk)] (Tm.mk 8 [] [(Tm.mk ku nu asu), (Tm.mk kv nv asv)]) [.int .i64 8, .string (bstr []), .slice (some ⟨b36, 0, none⟩) 2 2] := TmR.mkN (nm := []) (n := 2) rfl (RowR.own (List.mem_cons_self ..) rfl) (by decide) (TmsR.cons (hcu.more Inc.nil) (TmsR.one (hcv.more Inc.nil)))
    refine TL.nil ?_
    refine T.seq ?_
    refine T.seq ?_
    refine T.live (l := [(0, _), (4, _), (5, _), (7, _), (8, _)]) (.cons (by (conv => lhs; whnf) <;> rfl) (.cons (by (conv => lhs; whnf) <;> rfl) (.cons (by (conv => lhs; whnf) <;> rfl) (.cons (by (conv => lhs; whnf) <;> rfl) (.cons (by (conv => lhs; whnf) <;> rfl) .nil))))) (fun e_ => ?_)
    refine T.region ?_
    refine TL.cons rfl (V1.t (V1.loadN one_26 sz_26 rfl (RdN.whole (by repeat (first | exact Find.here | assumption | apply Find.there | apply Find.far))) (by rfl)) ?_)
    refine TL.cons rfl (T1.callV has_17 rfl rfl (Check_any w0 (Yr ++ [(⟨⟨b32, some 26⟩, 0, [.int .i64 ku, .string (bstr nu), .slice au_ asu.length cu_] ++ [.int .i64 kv, .string (bstr nv), .slice av_ asv.length cv_], 2 * 3⟩ : Blk)]) (Tm.mk 2 [] [(Tm.mk ku nu asu), (Tm.mk kv nv asv)]) _ hcp) (by repeat (first | exact Inc.nil | assumption | exact Inc.refl | exact Inc.here | apply Inc.app | apply Inc.cons (by repeat (first | exact Find.here | assumption | apply Find.there | apply Find.far)) | apply Inc.skip1 | apply Inc.skip)) (fun v_ hv => ?_))
    obtain rfl := hv
    refine TL.cons rfl (T1.neI_split rfl rfl (fun h7 => ?_) (fun h7 => ?_))
    ·
      refine TL.cons rfl (V1.t (V1.move' (by (conv => lhs; whnf) <;> rfl)) ?_)
      refine TL.no rfl ?_
      refine TL.no rfl ?_
      refine TL.no rfl ?_
      refine TL.cons rfl (V1.t (V1.pick rfl (by (conv => lhs; whnf) <;> rfl)) ?_)
      refine TL.nil ?_
      refine T.cond_t rfl ?_
      refine T.seq ?_
      refine T.region ?_
      refine TL.cons rfl (V1.t (V1.assign' (by (conv => lhs; whnf) <;> rfl)) ?_)
      refine TL.nil ?_
      refine T.ret ?_
      exact ⟨_, G, _, .cons (.tmp (by (conv => lhs; whnf) <;> rfl)) .nil, (by repeat (first | exact Take.nil | apply Take.one (by repeat (first | exact Pick.here | apply Pick.there | apply Pick.far)) | apply Take.seg (by repeat (first | exact PickS.last | exact PickS.one | exact PickS.here | exact PickS.nil | apply PickS.there | apply PickS.far)) | exact Take.last (by repeat (first | exact PickS.last | exact PickS.one | exact PickS.here | exact PickS.nil | apply PickS.there | apply PickS.far)))), rfl, rfl⟩
    ·
      have hcpr : chk (Tm.mk 2 [] [(Tm.mk ku nu asu), (Tm.mk kv nv asv)]) = 0 := h7
      refine TL.cons rfl (V1.t (V1.move' (by (conv => lhs; whnf) <;> rfl)) ?_)
      refine TL.cons rfl (V1.t (V1.loadN one_26 sz_26 rfl (RdN.whole (by repeat (first | exact Find.here | assumption | apply Find.there | apply Find.far))) (by rfl)) ?_)
      refine TL.cons rfl (T1.callV has_17 rfl rfl (Check_any w0 [(⟨⟨b36, some 26⟩, 0, [.int .i64 ku, .string (bstr nu), .slice au_ asu.length cu_] ++ [.int .i64 kv, .string (bstr nv), .slice av_ asv.length cv_], 2 * 3⟩ : Blk)] (Tm.mk 8 [] [(Tm.mk ku nu asu), (Tm.mk kv nv asv)]) _ hsg) (by repeat (first | exact Inc.nil | assumption | exact Inc.refl | exact Inc.here | apply Inc.app | apply Inc.cons (by repeat (first | exact Find.here | assumption | apply Find.there | apply Find.far)) | apply Inc.skip1 | apply Inc.skip)) (fun v_ hv => ?_))
      obtain rfl := hv
      refine TL.cons rfl (T1.neI_split rfl rfl (fun h76 => ?_) (fun h76 => ?_))
      ·
        refine TL.cons rfl (V1.t (V1.pick rfl (by (conv => lhs; whnf) <;> rfl)) ?_)
        refine TL.nil ?_
        refine T.cond_t rfl ?_
        refine T.seq ?_
        refine T.region ?_
        refine TL.cons rfl (V1.t (V1.assign' (by (conv => lhs; whnf) <;> rfl)) ?_)
        refine TL.nil ?_
        refine T.ret ?_
        exact ⟨_, G, _, .cons (.tmp (by (conv => lhs; whnf) <;> rfl)) .nil, (by repeat (first | exact Take.nil | apply Take.one (by repeat (first | exact Pick.here | apply Pick.there | apply Pick.far)) | apply Take.seg (by repeat (first | exact PickS.last | exact PickS.one | exact PickS.here | exact PickS.nil | apply PickS.there | apply PickS.far)) | exact Take.last (by repeat (first | exact PickS.last | exact PickS.one | exact PickS.here | exact PickS.nil | apply PickS.there | apply PickS.far)))), rfl, rfl⟩
      ·
        have hcsg : chk (Tm.mk 8 [] [(Tm.mk ku nu asu), (Tm.mk kv nv asv)]) = 0 := h76
        refine TL.cons rfl (V1.t (V1.pick rfl (by (conv => lhs; whnf) <;> rfl)) ?_)
        refine TL.nil ?_
        refine T.cond_f rfl ?_
        refine T.skip ?_
        refine T.cut (σ := Nat × List Blk × List Blk) (l0 := [(0, _), (4, _), (5, _), (7, _), (8, _)]) (fun x => [(9, .pointer (some ⟨x.1, 0, none⟩)), (10, .int .i64 0)]) (fun x L => ∃ l2, L = x.2.1 ++ (x.2.2 ++ (⟨b8, 0, [.int .i64 8, .string (bstr []), .slice (some ⟨b36, 0, none⟩) 2 2], 3⟩ :: ⟨b7, 0, [.int .i64 2, .string (bstr []), .slice ar 2 cr], 3⟩ :: (⟨⟨b36, some 26⟩, 0, [.int .i64 ku, .string (bstr nu), .slice au_ asu.length cu_] ++ [.int .i64 kv, .string (bstr nv), .slice av_ asv.length cv_], 2 * 3⟩ : Blk) :: (Yr ++ ((⟨⟨b32, some 26⟩, 0, [.int .i64 ku, .string (bstr nu), .slice au_ asu.length cu_] ++ [.int .i64 kv, .string (bstr nv), .slice av_ asv.length cv_], 2 * 3⟩ : Blk) :: ⟨b5, 0, [.int .i64 kv, .string (bstr nv), .slice av_ asv.length cv_], 3⟩ :: ⟨b4, 0, [.int .i64 ku, .string (bstr nu), .slice au_ asu.length cu_], 3⟩ :: G)))) ∧ KnO w0 (x.2.2 ++ (Yr ++ [(⟨⟨b32, some 26⟩, 0, [.int .i64 ku, .string (bstr nu), .slice au_ asu.length cu_] ++ [.int .i64 kv, .string (bstr nv), .slice av_ asv.length cv_], 2 * 3⟩ : Blk)])) x.1 l2 x.2.1 ∧ Kn (ts ++ [(Tm.mk 2 [] [(Tm.mk ku nu asu), (Tm.mk kv nv asv)])]) l2) (.cons (by (conv => lhs; whnf) <;> rfl) (.cons (by (conv => lhs; whnf) <;> rfl) (.cons (by (conv => lhs; whnf) <;> rfl) (.cons (by (conv => lhs; whnf) <;> rfl) (.cons (by (conv => lhs; whnf) <;> rfl) .nil))))) ?_ ?_
        ·
          refine T.drawK (fun L_ => Find L_ ⟨b7, 0, [.int .i64 2, .string (bstr []), .slice ar 2 cr], 3⟩) mixed (by repeat (first | exact Find.here | assumption | apply Find.there | apply Find.far)) ?_
          refine TK.take 1 rfl (by decide +kernel) (by decide +kernel) (by decide +kernel) rfl (fun _ _ _ h => h) (fun L_ k1_ => V1.move' (by (conv => lhs; whnf) <;> rfl)) ?_
          refine TK.take 3 rfl (by decide +kernel) (by decide +kernel) (by decide +kernel) rfl (fun _ _ _ h => h) (fun L_ k1_ => V1.loadN one_26 sz_26 rfl (RdN.whole (by repeat (first | exact Find.here | assumption | apply Find.there | apply Find.far))) (by rfl)) ?_
          refine TK.two 0 4 (by decide +kernel) rfl rfl rfl rfl (T1.buildNone ty_23 sz_26 zr_26 (fun b47 => ?_)) (T1.buildOne (cs := [.int .i64 2, .string (bstr []), .slice ar 2 cr]) ty_23 sz_26 zr_26 (by decide) rfl (by rfl) (fun b51 => ?_))
          ·
            refine ⟨(by repeat (first | exact Find.here | assumption | apply Find.there | apply Find.far)), ?_⟩
            refine TK.two 2 4 (by decide +kernel) rfl rfl rfl rfl (T1.appendG ty_23 kd_23 sz_26 by_26 zr_26 rfl (by decide) (by decide) rfl rfl (.inr rfl) (SlG.none0 b47) (hr.src _ rfl rfl _ (by repeat (first | exact Inc.nil | assumption | exact Inc.refl | exact Inc.here | apply Inc.app | apply Inc.cons (by repeat (first | exact Find.here | assumption | apply Find.there | apply Find.far)) | apply Inc.skip1 | apply Inc.skip))) ht.ones (ts.length) (by rw [ht.len]; simp) (by omega) (by repeat (first | exact PickS.last | exact PickS.one | exact PickS.here | exact PickS.nil | apply PickS.there | apply PickS.far)) (fun s1 Ls1 hsl1 => ?_)) (T1.buildOne (cs := [.int .i64 2, .string (bstr []), .slice ar 2 cr]) ty_23 sz_26 zr_26 (by decide) rfl (by rfl) (fun b51 => ?_))
            ·
              rw [List.nil_append] at hsl1
              refine ⟨(by repeat (first | exact Find.here | assumption | apply Find.there | apply Find.far)), ?_⟩
              refine TK.one 4 (by decide +kernel) rfl rfl (T1.buildOne (cs := [.int .i64 2, .string (bstr []), .slice ar 2 cr]) ty_23 sz_26 zr_26 (by decide) rfl (by rfl) (fun b51 => ?_))
              refine ⟨(by repeat (first | exact Find.here | assumption | apply Find.there | apply Find.far)), ?_⟩
              refine TK.one 5 (by decide +kernel) rfl rfl (T1.appendG ty_23 kd_23 sz_26 by_26 zr_26 rfl (by decide) (by decide) rfl rfl (.inr rfl) hsl1 (.sl (vs := [.int .i64 2, .string (bstr []), .slice ar 2 cr]) (RdN.at0 (by repeat (first | exact Find.here | assumption | apply Find.there | apply Find.far))) (by rfl)) (ones rfl) (ts.length + 1) (by rw [ht.len]; show _ + 3 ≤ _; omega) (by omega) (by repeat (first | exact PickS.last | exact PickS.one | exact PickS.here | exact PickS.nil | apply PickS.there | apply PickS.far)) (fun s2 Ls2 hsl2 => ?_))
              have htn : TmsR w0 (Yr ++ [(⟨⟨b32, some 26⟩, 0, [.int .i64 ku, .string (bstr nu), .slice au_ asu.length cu_] ++ [.int .i64 kv, .string (bstr nv), .slice av_ asv.length cv_], 2 * 3⟩ : Blk)]) (ts ++ [(Tm.mk 2 [] [(Tm.mk ku nu asu), (Tm.mk kv nv asv)])]) (vs ++ ([.int .i64 2, .string (bstr []), .slice ar 2 cr])) := (ht.more Inc.nil).app (TmsR.one hcp)
              obtain ⟨an, cn, rfl, hrn⟩ := hsl2.tm htn
              refine ⟨(by repeat (first | exact Find.here | assumption | apply Find.there | apply Find.far)), ?_⟩
              refine TK.one 6 (by decide +kernel) rfl rfl (T1.callC has_19 rfl rfl (New_kn w0 (Ls2 ++ (Yr ++ [(⟨⟨b32, some 26⟩, 0, [.int .i64 ku, .string (bstr nu), .slice au_ asu.length cu_] ++ [.int .i64 kv, .string (bstr nv), .slice av_ asv.length cv_], 2 * 3⟩ : Blk)])) rfl hrn (htn.more (Inc.skip Inc.refl)) (chk_of hcts (by intro t ht; rw [List.mem_singleton] at ht; subst ht; exact hcpr)) (by rw [nparts_app, nparts_cons, nparts_nil]; omega)) (by repeat (first | exact Inc.nil | assumption | exact Inc.refl | exact Inc.here | apply Inc.app | apply Inc.cons (by repeat (first | exact Find.here | assumption | apply Find.there | apply Find.far)) | apply Inc.skip1 | apply Inc.skip)) (fun v_ Yn hY => ?_))
              obtain ⟨kbn, ln, rfl, hknn, hkn_⟩ := hY
              refine ⟨(by repeat (first | exact Find.here | assumption | apply Find.there | apply Find.far)), ?_⟩
              refine TK.take 7 rfl (by decide +kernel) (by decide +kernel) (by decide +kernel) rfl (fun _ _ _ h => h) (fun L_ k1_ => V1.move' (by (conv => lhs; whnf) <;> rfl)) ?_
              refine TK.take 8 rfl (by decide +kernel) (by decide +kernel) (by decide +kernel) rfl (fun _ _ _ h => h) (fun L_ k1_ => V1.extract rfl (by rfl)) ?_
              refine TK.take 9 rfl (by decide +kernel) (by decide +kernel) (by decide +kernel) rfl (fun _ _ _ h => h) (fun L_ k1_ => V1.extract rfl (by rfl)) ?_
              refine TK.take 10 rfl (by decide +kernel) (by decide +kernel) (by decide +kernel) rfl (fun _ _ _ h => h) (fun L_ k1_ => V1.assign' (by (conv => lhs; whnf) <;> rfl)) ?_
              refine TK.take 11 rfl (by decide +kernel) (by decide +kernel) (by decide +kernel) rfl (fun _ _ _ h => h) (fun L_ k1_ => V1.assign' (by (conv => lhs; whnf) <;> rfl)) ?_
              refine TD.done (by decide +kernel) ?_
              exact ⟨(kbn, Yn, Ls2), _, _, trivial, (.cons rfl (.cons rfl .nil)), (.cons rfl (.cons rfl (.cons rfl (.cons rfl (.cons rfl .nil))))), (by repeat (first | exact Take.nil | apply Take.one (by repeat (first | exact Pick.here | apply Pick.there | apply Pick.far)) | apply Take.seg (by repeat (first | exact PickS.last | exact PickS.one | exact PickS.here | exact PickS.nil | apply PickS.there | apply PickS.far)) | exact Take.last (by repeat (first | exact PickS.last | exact PickS.one | exact PickS.here | exact PickS.nil | apply PickS.there | apply PickS.far)))), ⟨ln, rfl, hknn, hkn_⟩⟩
            ·
              refine ⟨(by repeat (first | exact Find.here | assumption | apply Find.there | apply Find.far)), ?_⟩
              refine TK.one 2 (by decide +kernel) rfl rfl (T1.appendG ty_23 kd_23 sz_26 by_26 zr_26 rfl (by decide) (by decide) rfl rfl (.inr rfl) (SlG.none0 b47) (hr.src _ rfl rfl _ (by repeat (first | exact Inc.nil | assumption | exact Inc.refl | exact Inc.here | apply Inc.app | apply Inc.cons (by repeat (first | exact Find.here | assumption | apply Find.there | apply Find.far)) | apply Inc.skip1 | apply Inc.skip))) ht.ones (ts.length) (by rw [ht.len]; simp) (by omega) (by repeat (first | exact PickS.last | exact PickS.one | exact PickS.here | exact PickS.nil | apply PickS.there | apply PickS.far)) (fun s1 Ls1 hsl1 => ?_))
              rw [List.nil_append] at hsl1
              refine ⟨(by repeat (first | exact Find.here | assumption | apply Find.there | apply Find.far)), ?_⟩
              refine TK.one 5 (by decide +kernel) rfl rfl (T1.appendG ty_23 kd_23 sz_26 by_26 zr_26 rfl (by decide) (by decide) rfl rfl (.inr rfl) hsl1 (.sl (vs := [.int .i64 2, .string (bstr []), .slice ar 2 cr]) (RdN.at0 (by repeat (first | exact Find.here | assumption | apply Find.there | apply Find.far))) (by rfl)) (ones rfl) (ts.length + 1) (by rw [ht.len]; show _ + 3 ≤ _; omega) (by omega) (by repeat (first | exact PickS.last | exact PickS.one | exact PickS.here | exact PickS.nil | apply PickS.there | apply PickS.far)) (fun s2 Ls2 hsl2 => ?_))
              have htn : TmsR w0 (Yr ++ [(⟨⟨b32, some 26⟩, 0, [.int .i64 ku, .string (bstr nu), .slice au_ asu.length cu_] ++ [.int .i64 kv, .string (bstr nv), .slice av_ asv.length cv_], 2 * 3⟩ : Blk)]) (ts ++ [(Tm.mk 2 [] [(Tm.mk ku nu asu), (Tm.mk kv nv asv)])]) (vs ++ ([.int .i64 2, .string (bstr []), .slice ar 2 cr])) := (ht.more Inc.nil).app (TmsR.one hcp)
              obtain ⟨an, cn, rfl, hrn⟩ := hsl2.tm htn
              refine ⟨(by repeat (first | exact Find.here | assumption | apply Find.there | apply Find.far)), ?_⟩
              refine TK.one 6 (by decide +kernel) rfl rfl (T1.callC has_19 rfl rfl (New_kn w0 (Ls2 ++ (Yr ++ [(⟨⟨b32, some 26⟩, 0, [.int .i64 ku, .string (bstr nu), .slice au_ asu.length cu_] ++ [.int .i64 kv, .string (bstr nv), .slice av_ asv.length cv_], 2 * 3⟩ : Blk)])) rfl hrn (htn.more (Inc.skip Inc.refl)) (chk_of hcts (by intro t ht; rw [List.mem_singleton] at ht; subst ht; exact hcpr)) (by rw [nparts_app, nparts_cons, nparts_nil]; omega)) (by repeat (first | exact Inc.nil | assumption | exact Inc.refl | exact Inc.here | apply Inc.app | apply Inc.cons (by repeat (first | exact Find.here | assumption | apply Find.there | apply Find.far)) | apply Inc.skip1 | apply Inc.skip)) (fun v_ Yn hY => ?_))
              obtain ⟨kbn, ln, rfl, hknn, hkn_⟩ := hY
              refine ⟨(by repeat (first | exact Find.here | assumption | apply Find.there | apply Find.far)), ?_⟩
              refine TK.take 7 rfl (by decide +kernel) (by decide +kernel) (by decide +kernel) rfl (fun _ _ _ h => h) (fun L_ k1_ => V1.move' (by (conv => lhs; whnf) <;> rfl)) ?_
              refine TK.take 8 rfl (by decide +kernel) (by decide +kernel) (by decide +kernel) rfl (fun _ _ _ h => h) (fun L_ k1_ => V1.extract rfl (by rfl)) ?_
              refine TK.take 9 rfl (by decide +kernel) (by decide +kernel) (by decide +kernel) rfl (fun _ _ _ h => h) (fun L_ k1_ => V1.extract rfl (by rfl)) ?_
              refine TK.take 10 rfl (by decide +kernel) (by decide +kernel) (by decide +kernel) rfl (fun _ _ _ h => h) (fun L_ k1_ => V1.assign' (by (conv => lhs; whnf) <;> rfl)) ?_
              refine TK.take 11 rfl (by decide +kernel) (by decide +kernel) (by decide +kernel) rfl (fun _ _ _ h => h) (fun L_ k1_ => V1.assign' (by (conv => lhs; whnf) <;> rfl)) ?_
              refine TD.done (by decide +kernel) ?_
              exact ⟨(kbn, Yn, Ls2), _, _, trivial, (.cons rfl (.cons rfl .nil)), (.cons rfl (.cons rfl (.cons rfl (.cons rfl (.cons rfl .nil))))), (by repeat (first | exact Take.nil | apply Take.one (by repeat (first | exact Pick.here | apply Pick.there | apply Pick.far)) | apply Take.seg (by repeat (first | exact PickS.last | exact PickS.one | exact PickS.here | exact PickS.nil | apply PickS.there | apply PickS.far)) | exact Take.last (by repeat (first | exact PickS.last | exact PickS.one | exact PickS.here | exact PickS.nil | apply PickS.there | apply PickS.far)))), ⟨ln, rfl, hknn, hkn_⟩⟩
          ·
            refine ⟨(by repeat (first | exact Find.here | assumption | apply Find.there | apply Find.far)), ?_⟩
            refine TK.one 0 (by decide +kernel) rfl rfl (T1.buildNone ty_23 sz_26 zr_26 (fun b47 => ?_))
            refine ⟨(by repeat (first | exact Find.here | assumption | apply Find.there | apply Find.far)), ?_⟩
            refine TK.one 2 (by decide +kernel) rfl rfl (T1.appendG ty_23 kd_23 sz_26 by_26 zr_26 rfl (by decide) (by decide) rfl rfl (.inr rfl) (SlG.none0 b47) (hr.src _ rfl rfl _ (by repeat (first | exact Inc.nil | assumption | exact Inc.refl | exact Inc.here | apply Inc.app | apply Inc.cons (by repeat (first | exact Find.here | assumption | apply Find.there | apply Find.far)) | apply Inc.skip1 | apply Inc.skip))) ht.ones (ts.length) (by rw [ht.len]; simp) (by omega) (by repeat (first | exact PickS.last | exact PickS.one | exact PickS.here | exact PickS.nil | apply PickS.there | apply PickS.far)) (fun s1 Ls1 hsl1 => ?_))
            rw [List.nil_append] at hsl1
            refine ⟨(by repeat (first | exact Find.here | assumption | apply Find.there | apply Find.far)), ?_⟩
            refine TK.one 5 (by decide +kernel) rfl rfl (T1.appendG ty_23 kd_23 sz_26 by_26 zr_26 rfl (by decide) (by decide) rfl rfl (.inr rfl) hsl1 (.sl (vs := [.int .i64 2, .string (bstr []), .slice ar 2 cr]) (RdN.at0 (by repeat (first | exact Find.here | assumption | apply Find.there | apply Find.far))) (by rfl)) (ones rfl) (ts.length + 1) (by rw [ht.len]; show _ + 3 ≤ _; omega) (by omega) (by repeat (first | exact PickS.last | exact PickS.one | exact PickS.here | exact PickS.nil | apply PickS.there | apply PickS.far)) (fun s2 Ls2 hsl2 => ?_))
            have htn : TmsR w0 (Yr ++ [(⟨⟨b32, some 26⟩, 0, [.int .i64 ku, .string (bstr nu), .slice au_ asu.length cu_] ++ [.int .i64 kv, .string (bstr nv), .slice av_ asv.length cv_], 2 * 3⟩ : Blk)]) (ts ++ [(Tm.mk 2 [] [(Tm.mk ku nu asu), (Tm.mk kv nv asv)])]) (vs ++ ([.int .i64 2, .string (bstr []), .slice ar 2 cr])) := (ht.more Inc.nil).app (TmsR.one hcp)
            obtain ⟨an, cn, rfl, hrn⟩ := hsl2.tm htn
            refine ⟨(by repeat (first | exact Find.here | assumption | apply Find.there | apply Find.far)), ?_⟩
            refine TK.one 6 (by decide +kernel) rfl rfl (T1.callC has_19 rfl rfl (New_kn w0 (Ls2 ++ (Yr ++ [(⟨⟨b32, some 26⟩, 0, [.int .i64 ku, .string (bstr nu), .slice au_ asu.length cu_] ++ [.int .i64 kv, .string (bstr nv), .slice av_ asv.length cv_], 2 * 3⟩ : Blk)])) rfl hrn (htn.more (Inc.skip Inc.refl)) (chk_of hcts (by intro t ht; rw [List.mem_singleton] at ht; subst ht; exact hcpr)) (by rw [nparts_app, nparts_cons, nparts_nil]; omega)) (by repeat (first | exact Inc.nil | assumption | exact Inc.refl | exact Inc.here | apply Inc.app | apply Inc.cons (by repeat (first | exact Find.here | assumption | apply Find.there | apply Find.far)) | apply Inc.skip1 | apply Inc.skip)) (fun v_ Yn hY => ?_))
            obtain ⟨kbn, ln, rfl, hknn, hkn_⟩ := hY
            refine ⟨(by repeat (first | exact Find.here | assumption | apply Find.there | apply Find.far)), ?_⟩
            refine TK.take 7 rfl (by decide +kernel) (by decide +kernel) (by decide +kernel) rfl (fun _ _ _ h => h) (fun L_ k1_ => V1.move' (by (conv => lhs; whnf) <;> rfl)) ?_
            refine TK.take 8 rfl (by decide +kernel) (by decide +kernel) (by decide +kernel) rfl (fun _ _ _ h => h) (fun L_ k1_ => V1.extract rfl (by rfl)) ?_
            refine TK.take 9 rfl (by decide +kernel) (by decide +kernel) (by decide +kernel) rfl (fun _ _ _ h => h) (fun L_ k1_ => V1.extract rfl (by rfl)) ?_
            refine TK.take 10 rfl (by decide +kernel) (by decide +kernel) (by decide +kernel) rfl (fun _ _ _ h => h) (fun L_ k1_ => V1.assign' (by (conv => lhs; whnf) <;> rfl)) ?_
            refine TK.take 11 rfl (by decide +kernel) (by decide +kernel) (by decide +kernel) rfl (fun _ _ _ h => h) (fun L_ k1_ => V1.assign' (by (conv => lhs; whnf) <;> rfl)) ?_
            refine TD.done (by decide +kernel) ?_
            exact ⟨(kbn, Yn, Ls2), _, _, trivial, (.cons rfl (.cons rfl .nil)), (.cons rfl (.cons rfl (.cons rfl (.cons rfl (.cons rfl .nil))))), (by repeat (first | exact Take.nil | apply Take.one (by repeat (first | exact Pick.here | apply Pick.there | apply Pick.far)) | apply Take.seg (by repeat (first | exact PickS.last | exact PickS.one | exact PickS.here | exact PickS.nil | apply PickS.there | apply PickS.far)) | exact Take.last (by repeat (first | exact PickS.last | exact PickS.one | exact PickS.here | exact PickS.nil | apply PickS.there | apply PickS.far)))), ⟨ln, rfl, hknn, hkn_⟩⟩
        ·
          rintro ⟨kbx, Yx, Qx⟩ e_ L ⟨lx, rfl, hknx, hkx⟩
          simp only at hknx hkx
          refine T.cut (σ := Nat × List Blk × List Blk) (l0 := [(0, _), (4, _), (5, _), (7, _), (8, _), (9, _), (10, _)]) (fun x => [(11, .pointer (some ⟨x.1, 0, none⟩)), (12, .int .i64 0)]) (fun x L => ∃ l2, L = x.2.1 ++ (x.2.2 ++ (Yx ++ (Qx ++ (⟨b8, 0, [.int .i64 8, .string (bstr []), .slice (some ⟨b36, 0, none⟩) 2 2], 3⟩ :: ⟨b7, 0, [.int .i64 2, .string (bstr []), .slice ar 2 cr], 3⟩ :: (⟨⟨b36, some 26⟩, 0, [.int .i64 ku, .string (bstr nu), .slice au_ asu.length cu_] ++ [.int .i64 kv, .string (bstr nv), .slice av_ asv.length cv_], 2 * 3⟩ : Blk) :: (Yr ++ ((⟨⟨b32, some 26⟩, 0, [.int .i64 ku, .string (bstr nu), .slice au_ asu.length cu_] ++ [.int .i64 kv, .string (bstr nv), .slice av_ asv.length cv_], 2 * 3⟩ : Blk) :: ⟨b5, 0, [.int .i64 kv, .string (bstr nv), .slice av_ asv.length cv_], 3⟩ :: ⟨b4, 0, [.int .i64 ku, .string (bstr nu), .slice au_ asu.length cu_], 3⟩ :: G)))))) ∧ KnO w0 (x.2.2 ++ []) x.1 l2 x.2.1 ∧ Kn (ts ++ [(Tm.mk ku nu asu), (Tm.mk kv nv asv)]) l2) (.cons (by (conv => lhs; whnf) <;> rfl) (.cons (by (conv => lhs; whnf) <;> rfl) (.cons (by (conv => lhs; whnf) <;> rfl) (.cons (by (conv => lhs; whnf) <;> rfl) (.cons (by (conv => lhs; whnf) <;> rfl) (.cons (by (conv => lhs; whnf) <;> rfl) (.cons (by (conv => lhs; whnf) <;> rfl) .nil))))))) ?_ ?_
          ·
            refine T.drawK (fun L_ => Find L_ ⟨b4, 0, [.int .i64 ku, .string (bstr nu), .slice au_ asu.length cu_], 3⟩ ∧ Find L_ ⟨b5, 0, [.int .i64 kv, .string (bstr nv), .slice av_ asv.length cv_], 3⟩) mixed ⟨(by repeat (first | exact Find.here | assumption | apply Find.there | apply Find.far)), (by repeat (first | exact Find.here | assumption | apply Find.there | apply Find.far))⟩ ?_
            refine TK.take 1 rfl (by decide +kernel) (by decide +kernel) (by decide +kernel) rfl (fun _ _ _ h => h) (fun L_ ⟨k1_, k2_⟩ => V1.move' (by (conv => lhs; whnf) <;> rfl)) ?_
            refine TK.take 3 rfl (by decide +kernel) (by decide +kernel) (by decide +kernel) rfl (fun _ _ _ h => h) (fun L_ ⟨k1_, k2_⟩ => V1.loadN one_26 sz_26 rfl (RdN.whole (by repeat (first | exact Find.here | assumption | apply Find.there | apply Find.far))) (by rfl)) ?_
            refine TK.take 4 rfl (by decide +kernel) (by decide +kernel) (by decide +kernel) rfl (fun _ _ _ h => h) (fun L_ ⟨k1_, k2_⟩ => V1.loadN one_26 sz_26 rfl (RdN.whole (by repeat (first | exact Find.here | assumption | apply Find.there | apply Find.far))) (by rfl)) ?_
            refine TK.two 0 5 (by decide +kernel) rfl rfl rfl rfl (T1.buildNone ty_23 sz_26 zr_26 (fun b57 => ?_)) (T1.buildTwo (cs := [.int .i64 ku, .string (bstr nu), .slice au_ asu.length cu_]) (ds := [.int .i64 kv, .string (bstr nv), .slice av_ asv.length cv_]) ty_23 sz_26 zr_26 (by decide) rfl rfl (by rfl) (by rfl) (fun b62 => ?_))
            ·
              refine ⟨⟨(by repeat (first | exact Find.here | assumption | apply Find.there | apply Find.far)), (by repeat (first | exact Find.here | assumption | apply Find.there | apply Find.far))⟩, ?_⟩
              refine TK.two 2 5 (by decide +kernel) rfl rfl rfl rfl (T1.appendG ty_23 kd_23 sz_26 by_26 zr_26 rfl (by decide) (by decide) rfl rfl (.inr rfl) (SlG.none0 b57) (hr.src _ rfl rfl _ (by repeat (first | exact Inc.nil | assumption | exact Inc.refl | exact Inc.here | apply Inc.app | apply Inc.cons (by repeat (first | exact Find.here | assumption | apply Find.there | apply Find.far)) | apply Inc.skip1 | apply Inc.skip))) ht.ones (ts.length) (by rw [ht.len]; simp) (by omega) (by repeat (first | exact PickS.last | exact PickS.one | exact PickS.here | exact PickS.nil | apply PickS.there | apply PickS.far)) (fun s1 Ls1 hsl1 => ?_)) (T1.buildTwo (cs := [.int .i64 ku, .string (bstr nu), .slice au_ asu.length cu_]) (ds := [.int .i64 kv, .string (bstr nv), .slice av_ asv.length cv_]) ty_23 sz_26 zr_26 (by decide) rfl rfl (by rfl) (by rfl) (fun b62 => ?_))
              ·
                rw [List.nil_append] at hsl1
                refine ⟨⟨(by repeat (first | exact Find.here | assumption | apply Find.there | apply Find.far)), (by repeat (first | exact Find.here | assumption | apply Find.there | apply Find.far))⟩, ?_⟩
                refine TK.one 5 (by decide +kernel) rfl rfl (T1.buildTwo (cs := [.int .i64 ku, .string (bstr nu), .slice au_ asu.length cu_]) (ds := [.int .i64 kv, .string (bstr nv), .slice av_ asv.length cv_]) ty_23 sz_26 zr_26 (by decide) rfl rfl (by rfl) (by rfl) (fun b62 => ?_))
                refine ⟨⟨(by repeat (first | exact Find.here | assumption | apply Find.there | apply Find.far)), (by repeat (first | exact Find.here | assumption | apply Find.there | apply Find.far))⟩, ?_⟩
                refine TK.one 6 (by decide +kernel) rfl rfl (T1.appendG ty_23 kd_23 sz_26 by_26 zr_26 rfl (by decide) (by decide) rfl rfl (.inr rfl) hsl1 (.sl (vs := [.int .i64 ku, .string (bstr nu), .slice au_ asu.length cu_] ++ [.int .i64 kv, .string (bstr nv), .slice av_ asv.length cv_]) (RdN.at0 (by repeat (first | exact Find.here | assumption | apply Find.there | apply Find.far))) (by rfl)) (ones rfl) (ts.length + 2) (by rw [ht.len]; show _ + 6 ≤ _; omega) (by omega) (by repeat (first | exact PickS.last | exact PickS.one | exact PickS.here | exact PickS.nil | apply PickS.there | apply PickS.far)) (fun s2 Ls2 hsl2 => ?_))
                have htn : TmsR w0 [] (ts ++ [(Tm.mk ku nu asu), (Tm.mk kv nv asv)]) (vs ++ ([.int .i64 ku, .string (bstr nu), .slice au_ asu.length cu_] ++ [.int .i64 kv, .string (bstr nv), .slice av_ asv.length cv_])) := (ht.more Inc.nil).app (TmsR.cons hcu (TmsR.one hcv))
                obtain ⟨an, cn, rfl, hrn⟩ := hsl2.tm htn
                refine ⟨⟨(by repeat (first | exact Find.here | assumption | apply Find.there | apply Find.far)), (by repeat (first | exact Find.here | assumption | apply Find.there | apply Find.far))⟩, ?_⟩
                refine TK.one 7 (by decide +kernel) rfl rfl (T1.callC has_19 rfl rfl (New_kn w0 (Ls2 ++ []) rfl hrn (htn.more (Inc.skip Inc.refl)) (chk_of hcts (by intro t ht; simp only [List.mem_cons, List.not_mem_nil, or_false] at ht; rcases ht with rfl | rfl; exact hcu0; exact hcv0)) (by rw [nparts_app, nparts_cons, nparts_cons, nparts_nil]; omega)) (by repeat (first | exact Inc.nil | assumption | exact Inc.refl | exact Inc.here | apply Inc.app | apply Inc.cons (by repeat (first | exact Find.here | assumption | apply Find.there | apply Find.far)) | apply Inc.skip1 | apply Inc.skip)) (fun v_ Yn hY => ?_))
                obtain ⟨kbn, ln, rfl, hknn, hkn_⟩ := hY
                refine ⟨⟨(by repeat (first | exact Find.here | assumption | apply Find.there | apply Find.far)), (by repeat (first | exact Find.here | assumption | apply Find.there | apply Find.far))⟩, ?_⟩
                refine TK.take 8 rfl (by decide +kernel) (by decide +kernel) (by decide +kernel) rfl (fun _ _ _ h => h) (fun L_ ⟨k1_, k2_⟩ => V1.move' (by (conv => lhs; whnf) <;> rfl)) ?_
                refine TK.take 9 rfl (by decide +kernel) (by decide +kernel) (by decide +kernel) rfl (fun _ _ _ h => h) (fun L_ ⟨k1_, k2_⟩ => V1.extract rfl (by rfl)) ?_
                refine TK.take 10 rfl (by decide +kernel) (by decide +kernel) (by decide +kernel) rfl (fun _ _ _ h => h) (fun L_ ⟨k1_, k2_⟩ => V1.extract rfl (by rfl)) ?_
                refine TK.take 11 rfl (by decide +kernel) (by decide +kernel) (by decide +kernel) rfl (fun _ _ _ h => h) (fun L_ ⟨k1_, k2_⟩ => V1.assign' (by (conv => lhs; whnf) <;> rfl)) ?_
                refine TK.take 12 rfl (by decide +kernel) (by decide +kernel) (by decide +kernel) rfl (fun _ _ _ h => h) (fun L_ ⟨k1_, k2_⟩ => V1.assign' (by (conv => lhs; whnf) <;> rfl)) ?_
                refine TD.done (by decide +kernel) ?_
                exact ⟨(kbn, Yn, Ls2), _, _, trivial, (.cons rfl (.cons rfl .nil)), (.cons rfl (.cons rfl (.cons rfl (.cons rfl (.cons rfl (.cons rfl (.cons rfl .nil))))))), (by repeat (first | exact Take.nil | apply Take.one (by repeat (first | exact Pick.here | apply Pick.there | apply Pick.far)) | apply Take.seg (by repeat (first | exact PickS.last | exact PickS.one | exact PickS.here | exact PickS.nil | apply PickS.there | apply PickS.far)) | exact Take.last (by repeat (first | exact PickS.last | exact PickS.one | exact PickS.here | exact PickS.nil | apply PickS.there | apply PickS.far)))), ⟨ln, rfl, hknn, hkn_⟩⟩
              ·
                refine ⟨⟨(by repeat (first | exact Find.here | assumption | apply Find.there | apply Find.far)), (by repeat (first | exact Find.here | assumption | apply Find.there | apply Find.far))⟩, ?_⟩
                refine TK.one 2 (by decide +kernel) rfl rfl (T1.appendG ty_23 kd_23 sz_26 by_26 zr_26 rfl (by decide) (by decide) rfl rfl (.inr rfl) (SlG.none0 b57) (hr.src _ rfl rfl _ (by repeat (first | exact Inc.nil | assumption | exact Inc.refl | exact Inc.here | apply Inc.app | apply Inc.cons (by repeat (first | exact Find.here | assumption | apply Find.there | apply Find.far)) | apply Inc.skip1 | apply Inc.skip))) ht.ones (ts.length) (by rw [ht.len]; simp) (by omega) (by repeat (first | exact PickS.last | exact PickS.one | exact PickS.here | exact PickS.nil | apply PickS.there | apply PickS.far)) (fun s1 Ls1 hsl1 => ?_))
                rw [List.nil_append] at hsl1
                refine ⟨⟨(by repeat (first | exact Find.here | assumption | apply Find.there | apply Find.far)), (by repeat (first | exact Find.here | assumption | apply Find.there | apply Find.far))⟩, ?_⟩
                refine TK.one 6 (by decide +kernel) rfl rfl (T1.appendG ty_23 kd_23 sz_26 by_26 zr_26 rfl (by decide) (by decide) rfl rfl (.inr rfl) hsl1 (.sl (vs := [.int .i64 ku, .string (bstr nu), .slice au_ asu.length cu_] ++ [.int .i64 kv, .string (bstr nv), .slice av_ asv.length cv_]) (RdN.at0 (by repeat (first | exact Find.here | assumption | apply Find.there | apply Find.far))) (by rfl)) (ones rfl) (ts.length + 2) (by rw [ht.len]; show _ + 6 ≤ _; omega) (by omega) (by repeat (first | exact PickS.last | exact PickS.one | exact PickS.here | exact PickS.nil | apply PickS.there | apply PickS.far)) (fun s2 Ls2 hsl2 => ?_))
                have htn : TmsR w0 [] (ts ++ [(Tm.mk ku nu asu), (Tm.mk kv nv asv)]) (vs ++ ([.int .i64 ku, .string (bstr nu), .slice au_ asu.length cu_] ++ [.int .i64 kv, .string (bstr nv), .slice av_ asv.length cv_])) := (ht.more Inc.nil).app (TmsR.cons hcu (TmsR.one hcv))
                obtain ⟨an, cn, rfl, hrn⟩ := hsl2.tm htn
                refine ⟨⟨(by repeat (first | exact Find.here | assumption | apply Find.there | apply Find.far)), (by repeat (first | exact Find.here | assumption | apply Find.there | apply Find.far))⟩, ?_⟩
                refine TK.one 7 (by decide +kernel) rfl rfl (T1.callC has_19 rfl rfl (New_kn w0 (Ls2 ++ []) rfl hrn (htn.more (Inc.skip Inc.refl)) (chk_of hcts (by intro t ht; simp only [List.mem_cons, List.not_mem_nil, or_false] at ht; rcases ht with rfl | rfl; exact hcu0; exact hcv0)) (by rw [nparts_app, nparts_cons, nparts_cons, nparts_nil]; omega)) (by repeat (first | exact Inc.nil | assumption | exact Inc.refl | exact Inc.here | apply Inc.app | apply Inc.cons (by repeat (first | exact Find.here | assumption | apply Find.there | apply Find.far)) | apply Inc.skip1 | apply Inc.skip)) (fun v_ Yn hY => ?_))
                obtain ⟨kbn, ln, rfl, hknn, hkn_⟩ := hY
                refine ⟨⟨(by repeat (first | exact Find.here | assumption | apply Find.there | apply Find.far)), (by repeat (first | exact Find.here | assumption | apply Find.there | apply Find.far))⟩, ?_⟩
                refine TK.take 8 rfl (by decide +kernel) (by decide +kernel) (by decide +kernel) rfl (fun _ _ _ h => h) (fun L_ ⟨k1_, k2_⟩ => V1.move' (by (conv => lhs; whnf) <;> rfl)) ?_
                refine TK.take 9 rfl (by decide +kernel) (by decide +kernel) (by decide +kernel) rfl (fun _ _ _ h => h) (fun L_ ⟨k1_, k2_⟩ => V1.extract rfl (by rfl)) ?_
                refine TK.take 10 rfl (by decide +kernel) (by decide +kernel) (by decide +kernel) rfl (fun _ _ _ h => h) (fun L_ ⟨k1_, k2_⟩ => V1.extract rfl (by rfl)) ?_
                refine TK.take 11 rfl (by decide +kernel) (by decide +kernel) (by decide +kernel) rfl (fun _ _ _ h => h) (fun L_ ⟨k1_, k2_⟩ => V1.assign' (by (conv => lhs; whnf) <;> rfl)) ?_
                refine TK.take 12 rfl (by decide +kernel) (by decide +kernel) (by decide +kernel) rfl (fun _ _ _ h => h) (fun L_ ⟨k1_, k2_⟩ => V1.assign' (by (conv => lhs; whnf) <;> rfl)) ?_
                refine TD.done (by decide +kernel) ?_
                exact ⟨(kbn, Yn, Ls2), _, _, trivial, (.cons rfl (.cons rfl .nil)), (.cons rfl (.cons rfl (.cons rfl (.cons rfl (.cons rfl (.cons rfl (.cons rfl .nil))))))), (by repeat (first | exact Take.nil | apply Take.one (by repeat (first | exact Pick.here | apply Pick.there | apply Pick.far)) | apply Take.seg (by repeat (first | exact PickS.last | exact PickS.one | exact PickS.here | exact PickS.nil | apply PickS.there | apply PickS.far)) | exact Take.last (by repeat (first | exact PickS.last | exact PickS.one | exact PickS.here | exact PickS.nil | apply PickS.there | apply PickS.far)))), ⟨ln, rfl, hknn, hkn_⟩⟩
            ·
              refine ⟨⟨(by repeat (first | exact Find.here | assumption | apply Find.there | apply Find.far)), (by repeat (first | exact Find.here | assumption | apply Find.there | apply Find.far))⟩, ?_⟩
              refine TK.one 0 (by decide +kernel) rfl rfl (T1.buildNone ty_23 sz_26 zr_26 (fun b57 => ?_))
              refine ⟨⟨(by repeat (first | exact Find.here | assumption | apply Find.there | apply Find.far)), (by repeat (first | exact Find.here | assumption | apply Find.there | apply Find.far))⟩, ?_⟩
              refine TK.one 2 (by decide +kernel) rfl rfl (T1.appendG ty_23 kd_23 sz_26 by_26 zr_26 rfl (by decide) (by decide) rfl rfl (.inr rfl) (SlG.none0 b57) (hr.src _ rfl rfl _ (by repeat (first | exact Inc.nil | assumption | exact Inc.refl | exact Inc.here | apply Inc.app | apply Inc.cons (by repeat (first | exact Find.here | assumption | apply Find.there | apply Find.far)) | apply Inc.skip1 | apply Inc.skip))) ht.ones (ts.length) (by rw [ht.len]; simp) (by omega) (by repeat (first | exact PickS.last | exact PickS.one | exact PickS.here | exact PickS.nil | apply PickS.there | apply PickS.far)) (fun s1 Ls1 hsl1 => ?_))
              rw [List.nil_append] at hsl1
              refine ⟨⟨(by repeat (first | exact Find.here | assumption | apply Find.there | apply Find.far)), (by repeat (first | exact Find.here | assumption | apply Find.there | apply Find.far))⟩, ?_⟩
              refine TK.one 6 (by decide +kernel) rfl rfl (T1.appendG ty_23 kd_23 sz_26 by_26 zr_26 rfl (by decide) (by decide) rfl rfl (.inr rfl) hsl1 (.sl (vs := [.int .i64 ku, .string (bstr nu), .slice au_ asu.length cu_] ++ [.int .i64 kv, .string (bstr nv), .slice av_ asv.length cv_]) (RdN.at0 (by repeat (first | exact Find.here | assumption | apply Find.there | apply Find.far))) (by rfl)) (ones rfl) (ts.length + 2) (by rw [ht.len]; show _ + 6 ≤ _; omega) (by omega) (by repeat (first | exact PickS.last | exact PickS.one | exact PickS.here | exact PickS.nil | apply PickS.there | apply PickS.far)) (fun s2 Ls2 hsl2 => ?_))
              have htn : TmsR w0 [] (ts ++ [(Tm.mk ku nu asu), (Tm.mk kv nv asv)]) (vs ++ ([.int .i64 ku, .string (bstr nu), .slice au_ asu.length cu_] ++ [.int .i64 kv, .string (bstr nv), .slice av_ asv.length cv_])) := (ht.more Inc.nil).app (TmsR.cons hcu (TmsR.one hcv))
              obtain ⟨an, cn, rfl, hrn⟩ := hsl2.tm htn
              refine ⟨⟨(by repeat (first | exact Find.here | assumption | apply Find.there | apply Find.far)), (by repeat (first | exact Find.here | assumption | apply Find.there | apply Find.far))⟩, ?_⟩
              refine TK.one 7 (by decide +kernel) rfl rfl (T1.callC has_19 rfl rfl (New_kn w0 (Ls2 ++ []) rfl hrn (htn.more (Inc.skip Inc.refl)) (chk_of hcts (by intro t ht; simp only [List.mem_cons, List.not_mem_nil, or_false] at ht; rcases ht with rfl | rfl; exact hcu0; exact hcv0)) (by rw [nparts_app, nparts_cons, nparts_cons, nparts_nil]; omega)) (by repeat (first | exact Inc.nil | assumption | exact Inc.refl | exact Inc.here | apply Inc.app | apply Inc.cons (by repeat (first | exact Find.here | assumption | apply Find.there | apply Find.far)) | apply Inc.skip1 | apply Inc.skip)) (fun v_ Yn hY => ?_))
              obtain ⟨kbn, ln, rfl, hknn, hkn_⟩ := hY
              refine ⟨⟨(by repeat (first | exact Find.here | assumption | apply Find.there | apply Find.far)), (by repeat (first | exact Find.here | assumption | apply Find.there | apply Find.far))⟩, ?_⟩
              refine TK.take 8 rfl (by decide +kernel) (by decide +kernel) (by decide +kernel) rfl (fun _ _ _ h => h) (fun L_ ⟨k1_, k2_⟩ => V1.move' (by (conv => lhs; whnf) <;> rfl)) ?_
              refine TK.take 9 rfl (by decide +kernel) (by decide +kernel) (by decide +kernel) rfl (fun _ _ _ h => h) (fun L_ ⟨k1_, k2_⟩ => V1.extract rfl (by rfl)) ?_
              refine TK.take 10 rfl (by decide +kernel) (by decide +kernel) (by decide +kernel) rfl (fun _ _ _ h => h) (fun L_ ⟨k1_, k2_⟩ => V1.extract rfl (by rfl)) ?_
              refine TK.take 11 rfl (by decide +kernel) (by decide +kernel) (by decide +kernel) rfl (fun _ _ _ h => h) (fun L_ ⟨k1_, k2_⟩ => V1.assign' (by (conv => lhs; whnf) <;> rfl)) ?_
              refine TK.take 12 rfl (by decide +kernel) (by decide +kernel) (by decide +kernel) rfl (fun _ _ _ h => h) (fun L_ ⟨k1_, k2_⟩ => V1.assign' (by (conv => lhs; whnf) <;> rfl)) ?_
              refine TD.done (by decide +kernel) ?_
              exact ⟨(kbn, Yn, Ls2), _, _, trivial, (.cons rfl (.cons rfl .nil)), (.cons rfl (.cons rfl (.cons rfl (.cons rfl (.cons rfl (.cons rfl (.cons rfl .nil))))))), (by repeat (first | exact Take.nil | apply Take.one (by repeat (first | exact Pick.here | apply Pick.there | apply Pick.far)) | apply Take.seg (by repeat (first | exact PickS.last | exact PickS.one | exact PickS.here | exact PickS.nil | apply PickS.there | apply PickS.far)) | exact Take.last (by repeat (first | exact PickS.last | exact PickS.one | exact PickS.here | exact PickS.nil | apply PickS.there | apply PickS.far)))), ⟨ln, rfl, hknn, hkn_⟩⟩
          ·
            rintro ⟨kby, Yy, Qy⟩ e_ L ⟨ly, rfl, hkny, hky⟩
            simp only at hkny hky
            refine T.cut (σ := Nat × List Blk × List Blk) (l0 := [(0, _), (4, _), (5, _), (7, _), (8, _), (9, _), (10, _), (11, _), (12, _)]) (fun x => [(13, .pointer (some ⟨x.1, 0, none⟩)), (14, .int .i64 0)]) (fun x L => ∃ l2, L = x.2.1 ++ (x.2.2 ++ (Yy ++ (Qy ++ (Yx ++ (Qx ++ (⟨b8, 0, [.int .i64 8, .string (bstr []), .slice (some ⟨b36, 0, none⟩) 2 2], 3⟩ :: ⟨b7, 0, [.int .i64 2, .string (bstr []), .slice ar 2 cr], 3⟩ :: (⟨⟨b36, some 26⟩, 0, [.int .i64 ku, .string (bstr nu), .slice au_ asu.length cu_] ++ [.int .i64 kv, .string (bstr nv), .slice av_ asv.length cv_], 2 * 3⟩ : Blk) :: (Yr ++ ((⟨⟨b32, some 26⟩, 0, [.int .i64 ku, .string (bstr nu), .slice au_ asu.length cu_] ++ [.int .i64 kv, .string (bstr nv), .slice av_ asv.length cv_], 2 * 3⟩ : Blk) :: ⟨b5, 0, [.int .i64 kv, .string (bstr nv), .slice av_ asv.length cv_], 3⟩ :: ⟨b4, 0, [.int .i64 ku, .string (bstr nu), .slice au_ asu.length cu_], 3⟩ :: G)))))))) ∧ KnO w0 (x.2.2 ++ [(⟨⟨b36, some 26⟩, 0, [.int .i64 ku, .string (bstr nu), .slice au_ asu.length cu_] ++ [.int .i64 kv, .string (bstr nv), .slice av_ asv.length cv_], 2 * 3⟩ : Blk)]) x.1 l2 x.2.1 ∧ Kn (ts ++ [(Tm.mk 8 [] [(Tm.mk ku nu asu), (Tm.mk kv nv asv)])]) l2) (.cons (by (conv => lhs; whnf) <;> rfl) (.cons (by (conv => lhs; whnf) <;> rfl) (.cons (by (conv => lhs; whnf) <;> rfl) (.cons (by (conv => lhs; whnf) <;> rfl) (.cons (by (conv => lhs; whnf) <;> rfl) (.cons (by (conv => lhs; whnf) <;> rfl) (.cons (by (conv => lhs; whnf) <;> rfl) (.cons (by (conv => lhs; whnf) <;> rfl) (.cons (by (conv => lhs; whnf) <;> rfl) .nil))))))))) ?_ ?_
            ·
              refine T.drawK (fun L_ => Find L_ ⟨b8, 0, [.int .i64 8, .string (bstr []), .slice (some ⟨b36, 0, none⟩) 2 2], 3⟩) mixed (by repeat (first | exact Find.here | assumption | apply Find.there | apply Find.far)) ?_
              refine TK.take 1 rfl (by decide +kernel) (by decide +kernel) (by decide +kernel) rfl (fun _ _ _ h => h) (fun L_ k1_ => V1.move' (by (conv => lhs; whnf) <;> rfl)) ?_
              refine TK.take 3 rfl (by decide +kernel) (by decide +kernel) (by decide +kernel) rfl (fun _ _ _ h => h) (fun L_ k1_ => V1.loadN one_26 sz_26 rfl (RdN.whole (by repeat (first | exact Find.here | assumption | apply Find.there | apply Find.far))) (by rfl)) ?_
              refine TK.two 0 4 (by decide +kernel) rfl rfl rfl rfl (T1.buildNone ty_23 sz_26 zr_26 (fun b68 => ?_)) (T1.buildOne (cs := [.int .i64 8, .string (bstr []), .slice (some ⟨b36, 0, none⟩) 2 2]) ty_23 sz_26 zr_26 (by decide) rfl (by rfl) (fun b72 => ?_))
              ·
                refine ⟨(by repeat (first | exact Find.here | assumption | apply Find.there | apply Find.far)), ?_⟩
                refine TK.two 2 4 (by decide +kernel) rfl rfl rfl rfl (T1.appendG ty_23 kd_23 sz_26 by_26 zr_26 rfl (by decide) (by decide) rfl rfl (.inr rfl) (SlG.none0 b68) (hr.src _ rfl rfl _ (by repeat (first | exact Inc.nil | assumption | exact Inc.refl | exact Inc.here | apply Inc.app | apply Inc.cons (by repeat (first | exact Find.here | assumption | apply Find.there | apply Find.far)) | apply Inc.skip1 | apply Inc.skip))) ht.ones (ts.length) (by rw [ht.len]; simp) (by omega) (by repeat (first | exact PickS.last | exact PickS.one | exact PickS.here | exact PickS.nil | apply PickS.there | apply PickS.far)) (fun s1 Ls1 hsl1 => ?_)) (T1.buildOne (cs := [.int .i64 8, .string (bstr []), .slice (some ⟨b36, 0, none⟩) 2 2]) ty_23 sz_26 zr_26 (by decide) rfl (by rfl) (fun b72 => ?_))
                ·
                  rw [List.nil_append] at hsl1
                  refine ⟨(by repeat (first | exact Find.here | assumption | apply Find.there | apply Find.far)), ?_⟩
                  refine TK.one 4 (by decide +kernel) rfl rfl (T1.buildOne (cs := [.int .i64 8, .string (bstr []), .slice (some ⟨b36, 0, none⟩) 2 2]) ty_23 sz_26 zr_26 (by decide) rfl (by rfl) (fun b72 => ?_))
                  refine ⟨(by repeat (first | exact Find.here | assumption | apply Find.there | apply Find.far)), ?_⟩
                  refine TK.one 5 (by decide +kernel) rfl rfl (T1.appendG ty_23 kd_23 sz_26 by_26 zr_26 rfl (by decide) (by decide) rfl rfl (.inr rfl) hsl1 (.sl (vs := [.int .i64 8, .string (bstr []), .slice (some ⟨b36, 0, none⟩) 2 2]) (RdN.at0 (by repeat (first | exact Find.here | assumption | apply Find.there | apply Find.far))) (by rfl)) (ones rfl) (ts.length + 1) (by rw [ht.len]; show _ + 3 ≤ _; omega) (by omega) (by repeat (first | exact PickS.last | exact PickS.one | exact PickS.here | exact PickS.nil | apply PickS.there | apply PickS.far)) (fun s2 Ls2 hsl2 => ?_))
                  have htn : TmsR w0 [(⟨⟨b36, some 26⟩, 0, [.int .i64 ku, .string (bstr nu), .slice au_ asu.length cu_] ++ [.int .i64 kv, .string (bstr nv), .slice av_ asv.length cv_], 2 * 3⟩ : Blk)] (ts ++ [(Tm.mk 8 [] [(Tm.mk ku nu asu), (Tm.mk kv nv asv)])]) (vs ++ ([.int .i64 8, .string (bstr []), .slice (some ⟨b36, 0, none⟩) 2 2])) := (ht.more Inc.nil).app (TmsR.one hsg)
                  obtain ⟨an, cn, rfl, hrn⟩ := hsl2.tm htn
                  refine ⟨(by repeat (first | exact Find.here | assumption | apply Find.there | apply Find.far)), ?_⟩
                  refine TK.one 6 (by decide +kernel) rfl rfl (T1.callC has_19 rfl rfl (New_kn w0 (Ls2 ++ [(⟨⟨b36, some 26⟩, 0, [.int .i64 ku, .string (bstr nu), .slice au_ asu.length cu_] ++ [.int .i64 kv, .string (bstr nv), .slice av_ asv.length cv_], 2 * 3⟩ : Blk)]) rfl hrn (htn.more (Inc.skip Inc.refl)) (chk_of hcts (by intro t ht; rw [List.mem_singleton] at ht; subst ht; exact hcsg)) (by rw [nparts_app, nparts_cons, nparts_nil]; omega)) (by repeat (first | exact Inc.nil | assumption | exact Inc.refl | exact Inc.here | apply Inc.app | apply Inc.cons (by repeat (first | exact Find.here | assumption | apply Find.there | apply Find.far)) | apply Inc.skip1 | apply Inc.skip)) (fun v_ Yn hY => ?_))
                  obtain ⟨kbn, ln, rfl, hknn, hkn_⟩ := hY
                  refine ⟨(by repeat (first | exact Find.here | assumption | apply Find.there | apply Find.far)), ?_⟩
                  refine TK.take 7 rfl (by decide +kernel) (by decide +kernel) (by decide +kernel) rfl (fun _ _ _ h => h) (fun L_ k1_ => V1.move' (by (conv => lhs; whnf) <;> rfl)) ?_
                  refine TK.take 8 rfl (by decide +kernel) (by decide +kernel) (by decide +kernel) rfl (fun _ _ _ h => h) (fun L_ k1_ => V1.extract rfl (by rfl)) ?_
                  refine TK.take 9 rfl (by decide +kernel) (by decide +kernel) (by decide +kernel) rfl (fun _ _ _ h => h) (fun L_ k1_ => V1.extract rfl (by rfl)) ?_
                  refine TK.take 10 rfl (by decide +kernel) (by decide +kernel) (by decide +kernel) rfl (fun _ _ _ h => h) (fun L_ k1_ => V1.assign' (by (conv => lhs; whnf) <;> rfl)) ?_
                  refine TK.take 11 rfl (by decide +kernel) (by decide +kernel) (by decide +kernel) rfl (fun _ _ _ h => h) (fun L_ k1_ => V1.assign' (by (conv => lhs; whnf) <;> rfl)) ?_
                  refine TD.done (by decide +kernel) ?_
                  exact ⟨(kbn, Yn, Ls2), _, _, trivial, (.cons rfl (.cons rfl .nil)), (.cons rfl (.cons rfl (.cons rfl (.cons rfl (.cons rfl (.cons rfl (.cons rfl (.cons rfl (.cons rfl .nil))))))))), (by repeat (first | exact Take.nil | apply Take.one (by repeat (first | exact Pick.here | apply Pick.there | apply Pick.far)) | apply Take.seg (by repeat (first | exact PickS.last | exact PickS.one | exact PickS.here | exact PickS.nil | apply PickS.there | apply PickS.far)) | exact Take.last (by repeat (first | exact PickS.last | exact PickS.one | exact PickS.here | exact PickS.nil | apply PickS.there | apply PickS.far)))), ⟨ln, rfl, hknn, hkn_⟩⟩
                ·
                  refine ⟨(by repeat (first | exact Find.here | assumption | apply Find.there | apply Find.far)), ?_⟩
                  refine TK.one 2 (by decide +kernel) rfl rfl (T1.appendG ty_23 kd_23 sz_26 by_26 zr_26 rfl (by decide) (by decide) rfl rfl (.inr rfl) (SlG.none0 b68) (hr.src _ rfl rfl _ (by repeat (first | exact Inc.nil | assumption | exact Inc.refl | exact Inc.here | apply Inc.app | apply Inc.cons (by repeat (first | exact Find.here | assumption | apply Find.there | apply Find.far)) | apply Inc.skip1 | apply Inc.skip))) ht.ones (ts.length) (by rw [ht.len]; simp) (by omega) (by repeat (first | exact PickS.last | exact PickS.one | exact PickS.here | exact PickS.nil | apply PickS.there | apply PickS.far)) (fun s1 Ls1 hsl1 => ?_))
                  rw [List.nil_append] at hsl1
                  refine ⟨(by repeat (first | exact Find.here | assumption | apply Find.there | apply Find.far)), ?_⟩
                  refine TK.one 5 (by decide +kernel) rfl rfl (T1.appendG ty_23 kd_23 sz_26 by_26 zr_26 rfl (by decide) (by decide) rfl rfl (.inr rfl) hsl1 (.sl (vs := [.int .i64 8, .string (bstr []), .slice (some ⟨b36, 0, none⟩) 2 2]) (RdN.at0 (by repeat (first | exact Find.here | assumption | apply Find.there | apply Find.far))) (by rfl)) (ones rfl) (ts.length + 1) (by rw [ht.len]; show _ + 3 ≤ _; omega) (by omega) (by repeat (first | exact PickS.last | exact PickS.one | exact PickS.here | exact PickS.nil | apply PickS.there | apply PickS.far)) (fun s2 Ls2 hsl2 => ?_))
                  have htn : TmsR w0 [(⟨⟨b36, some 26⟩, 0, [.int .i64 ku, .string (bstr nu), .slice au_ asu.length cu_] ++ [.int .i64 kv, .string (bstr nv), .slice av_ asv.length cv_], 2 * 3⟩ : Blk)] (ts ++ [(Tm.mk 8 [] [(Tm.mk ku nu asu), (Tm.mk kv nv asv)])]) (vs ++ ([.int .i64 8, .string (bstr []), .slice (some ⟨b36, 0, none⟩) 2 2])) := (ht.more Inc.nil).app (TmsR.one hsg)
                  obtain ⟨an, cn, rfl, hrn⟩ := hsl2.tm htn
                  refine ⟨(by repeat (first | exact Find.here | assumption | apply Find.there | apply Find.far)), ?_⟩
                  refine TK.one 6 (by decide +kernel) rfl rfl (T1.callC has_19 rfl rfl (New_kn w0 (Ls2 ++ [(⟨⟨b36, some 26⟩, 0, [.int .i64 ku, .string (bstr nu), .slice au_ asu.length cu_] ++ [.int .i64 kv, .string (bstr nv), .slice av_ asv.length cv_], 2 * 3⟩ : Blk)]) rfl hrn (htn.more (Inc.skip Inc.refl)) (chk_of hcts (by intro t ht; rw [List.mem_singleton] at ht; subst ht; exact hcsg)) (by rw [nparts_app, nparts_cons, nparts_nil]; omega)) (by repeat (first | exact Inc.nil | assumption | exact Inc.refl | exact Inc.here | apply Inc.app | apply Inc.cons (by repeat (first | exact Find.here | assumption | apply Find.there | apply Find.far)) | apply Inc.skip1 | apply Inc.skip)) (fun v_ Yn hY => ?_))
                  obtain ⟨kbn, ln, rfl, hknn, hkn_⟩ := hY
                  refine ⟨(by repeat (first | exact Find.here | assumption | apply Find.there | apply Find.far)), ?_⟩
                  refine TK.take 7 rfl (by decide +kernel) (by decide +kernel) (by decide +kernel) rfl (fun _ _ _ h => h) (fun L_ k1_ => V1.move' (by (conv => lhs; whnf) <;> rfl)) ?_
                  refine TK.take 8 rfl (by decide +kernel) (by decide +kernel) (by decide +kernel) rfl (fun _ _ _ h => h) (fun L_ k1_ => V1.extract rfl (by rfl)) ?_
                  refine TK.take 9 rfl (by decide +kernel) (by decide +kernel) (by decide +kernel) rfl (fun _ _ _ h => h) (fun L_ k1_ => V1.extract rfl (by rfl)) ?_
                  refine TK.take 10 rfl (by decide +kernel) (by decide +kernel) (by decide +kernel) rfl (fun _ _ _ h => h) (fun L_ k1_ => V1.assign' (by (conv => lhs; whnf) <;> rfl)) ?_
                  refine TK.take 11 rfl (by decide +kernel) (by decide +kernel) (by decide +kernel) rfl (fun _ _ _ h => h) (fun L_ k1_ => V1.assign' (by (conv => lhs; whnf) <;> rfl)) ?_
                  refine TD.done (by decide +kernel) ?_
                  exact ⟨(kbn, Yn, Ls2), _, _, trivial, (.cons rfl (.cons rfl .nil)), (.cons rfl (.cons rfl (.cons rfl (.cons rfl (.cons rfl (.cons rfl (.cons rfl (.cons rfl (.cons rfl .nil))))))))), (by repeat (first | exact Take.nil | apply Take.one (by repeat (first | exact Pick.here | apply Pick.there | apply Pick.far)) | apply Take.seg (by repeat (first | exact PickS.last | exact PickS.one | exact PickS.here | exact PickS.nil | apply PickS.there | apply PickS.far)) | exact Take.last (by repeat (first | exact PickS.last | exact PickS.one | exact PickS.here | exact PickS.nil | apply PickS.there | apply PickS.far)))), ⟨ln, rfl, hknn, hkn_⟩⟩
              ·
                refine ⟨(by repeat (first | exact Find.here | assumption | apply Find.there | apply Find.far)), ?_⟩
                refine TK.one 0 (by decide +kernel) rfl rfl (T1.buildNone ty_23 sz_26 zr_26 (fun b68 => ?_))
                refine ⟨(by repeat (first | exact Find.here | assumption | apply Find.there | apply Find.far)), ?_⟩
                refine TK.one 2 (by decide +kernel) rfl rfl (T1.appendG ty_23 kd_23 sz_26 by_26 zr_26 rfl (by decide) (by decide) rfl rfl (.inr rfl) (SlG.none0 b68) (hr.src _ rfl rfl _ (by repeat (first | exact Inc.nil | assumption | exact Inc.refl | exact Inc.here | apply Inc.app | apply Inc.cons (by repeat (first | exact Find.here | assumption | apply Find.there | apply Find.far)) | apply Inc.skip1 | apply Inc.skip))) ht.ones (ts.length) (by rw [ht.len]; simp) (by omega) (by repeat (first | exact PickS.last | exact PickS.one | exact PickS.here | exact PickS.nil | apply PickS.there | apply PickS.far)) (fun s1 Ls1 hsl1 => ?_))
                rw [List.nil_append] at hsl1
                refine ⟨(by repeat (first | exact Find.here | assumption | apply Find.there | apply Find.far)), ?_⟩
                refine TK.one 5 (by decide +kernel) rfl rfl (T1.appendG ty_23 kd_23 sz_26 by_26 zr_26 rfl (by decide) (by decide) rfl rfl (.inr rfl) hsl1 (.sl (vs := [.int .i64 8, .string (bstr []), .slice (some ⟨b36, 0, none⟩) 2 2]) (RdN.at0 (by repeat (first | exact Find.here | assumption | apply Find.there | apply Find.far))) (by rfl)) (ones rfl) (ts.length + 1) (by rw [ht.len]; show _ + 3 ≤ _; omega) (by omega) (by repeat (first | exact PickS.last | exact PickS.one | exact PickS.here | exact PickS.nil | apply PickS.there | apply PickS.far)) (fun s2 Ls2 hsl2 => ?_))
                have htn : TmsR w0 [(⟨⟨b36, some 26⟩, 0, [.int .i64 ku, .string (bstr nu), .slice au_ asu.length cu_] ++ [.int .i64 kv, .string (bstr nv), .slice av_ asv.length cv_], 2 * 3⟩ : Blk)] (ts ++ [(Tm.mk 8 [] [(Tm.mk ku nu asu), (Tm.mk kv nv asv)])]) (vs ++ ([.int .i64 8, .string (bstr []), .slice (some ⟨b36, 0, none⟩) 2 2])) := (ht.more Inc.nil).app (TmsR.one hsg)
                obtain ⟨an, cn, rfl, hrn⟩ := hsl2.tm htn
                refine ⟨(by repeat (first | exact Find.here | assumption | apply Find.there | apply Find.far)), ?_⟩
                refine TK.one 6 (by decide +kernel) rfl rfl (T1.callC has_19 rfl rfl (New_kn w0 (Ls2 ++ [(⟨⟨b36, some 26⟩, 0, [.int .i64 ku, .string (bstr nu), .slice au_ asu.length cu_] ++ [.int .i64 kv, .string (bstr nv), .slice av_ asv.length cv_], 2 * 3⟩ : Blk)]) rfl hrn (htn.more (Inc.skip Inc.refl)) (chk_of hcts (by intro t ht; rw [List.mem_singleton] at ht; subst ht; exact hcsg)) (by rw [nparts_app, nparts_cons, nparts_nil]; omega)) (by repeat (first | exact Inc.nil | assumption | exact Inc.refl | exact Inc.here | apply Inc.app | apply Inc.cons (by repeat (first | exact Find.here | assumption | apply Find.there | apply Find.far)) | apply Inc.skip1 | apply Inc.skip)) (fun v_ Yn hY => ?_))
                obtain ⟨kbn, ln, rfl, hknn, hkn_⟩ := hY
                refine ⟨(by repeat (first | exact Find.here | assumption | apply Find.there | apply Find.far)), ?_⟩
                refine TK.take 7 rfl (by decide +kernel) (by decide +kernel) (by decide +kernel) rfl (fun _ _ _ h => h) (fun L_ k1_ => V1.move' (by (conv => lhs; whnf) <;> rfl)) ?_
                refine TK.take 8 rfl (by decide +kernel) (by decide +kernel) (by decide +kernel) rfl (fun _ _ _ h => h) (fun L_ k1_ => V1.extract rfl (by rfl)) ?_
                refine TK.take 9 rfl (by decide +kernel) (by decide +kernel) (by decide +kernel) rfl (fun _ _ _ h => h) (fun L_ k1_ => V1.extract rfl (by rfl)) ?_
                refine TK.take 10 rfl (by decide +kernel) (by decide +kernel) (by decide +kernel) rfl (fun _ _ _ h => h) (fun L_ k1_ => V1.assign' (by (conv => lhs; whnf) <;> rfl)) ?_
                refine TK.take 11 rfl (by decide +kernel) (by decide +kernel) (by decide +kernel) rfl (fun _ _ _ h => h) (fun L_ k1_ => V1.assign' (by (conv => lhs; whnf) <;> rfl)) ?_
                refine TD.done (by decide +kernel) ?_
                exact ⟨(kbn, Yn, Ls2), _, _, trivial, (.cons rfl (.cons rfl .nil)), (.cons rfl (.cons rfl (.cons rfl (.cons rfl (.cons rfl (.cons rfl (.cons rfl (.cons rfl (.cons rfl .nil))))))))), (by repeat (first | exact Take.nil | apply Take.one (by repeat (first | exact Pick.here | apply Pick.there | apply Pick.far)) | apply Take.seg (by repeat (first | exact PickS.last | exact PickS.one | exact PickS.here | exact PickS.nil | apply PickS.there | apply PickS.far)) | exact Take.last (by repeat (first | exact PickS.last | exact PickS.one | exact PickS.here | exact PickS.nil | apply PickS.there | apply PickS.far)))), ⟨ln, rfl, hknn, hkn_⟩⟩
            ·
              rintro ⟨kbz, Yz, Qz⟩ e_ L ⟨lz, rfl, hknz, hkz⟩
              simp only at hknz hkz
              refine T.seq ?_
              refine T.seq ?_
              refine T.region ?_
              refine TL.cons rfl (V1.t (V1.move' (by (conv => lhs; whnf) <;> rfl)) ?_)
              refine TL.cons rfl (V1.t (V1.neI (r := false) rfl rfl (by decide)) ?_)
              refine TL.cons rfl (V1.t (V1.move' (by (conv => lhs; whnf) <;> rfl)) ?_)
              refine TL.cons rfl (V1.t (V1.move' (by (conv => lhs; whnf) <;> rfl)) ?_)
              refine TL.cons rfl (V1.t (V1.neI (r := false) rfl rfl (by decide)) ?_)
              refine TL.cons rfl (V1.t (V1.pick rfl (by (conv => lhs; whnf) <;> rfl)) ?_)
              refine TL.cons rfl (V1.t (V1.move' (by (conv => lhs; whnf) <;> rfl)) ?_)
              refine TL.cons rfl (V1.t (V1.move' (by (conv => lhs; whnf) <;> rfl)) ?_)
              refine TL.cons rfl (V1.t (V1.neI (r := false) rfl rfl (by decide)) ?_)
              refine TL.cons rfl (V1.t (V1.pick rfl (by (conv => lhs; whnf) <;> rfl)) ?_)
              refine TL.cons rfl (V1.t (V1.move' (by (conv => lhs; whnf) <;> rfl)) ?_)
              refine TL.cons rfl (V1.t (V1.move' (by (conv => lhs; whnf) <;> rfl)) ?_)
              refine TL.cons rfl (V1.t (V1.eqNil ty_35 rfl rfl) ?_)
              refine TL.cons rfl (V1.t (V1.pick rfl (by (conv => lhs; whnf) <;> rfl)) ?_)
              refine TL.cons rfl (V1.t (V1.move' (by (conv => lhs; whnf) <;> rfl)) ?_)
              refine TL.cons rfl (V1.t (V1.move' (by (conv => lhs; whnf) <;> rfl)) ?_)
              refine TL.cons rfl (V1.t (V1.eqNil ty_35 rfl rfl) ?_)
              refine TL.cons rfl (V1.t (V1.pick rfl (by (conv => lhs; whnf) <;> rfl)) ?_)
              refine TL.cons rfl (V1.t (V1.move' (by (conv => lhs; whnf) <;> rfl)) ?_)
              refine TL.cons rfl (V1.t (V1.move' (by (conv => lhs; whnf) <;> rfl)) ?_)
              refine TL.cons rfl (V1.t (V1.eqNil ty_35 rfl rfl) ?_)
              refine TL.cons rfl (V1.t (V1.pick rfl (by (conv => lhs; whnf) <;> rfl)) ?_)
              refine TL.nil ?_
              refine T.cond_f rfl ?_
              refine T.skip ?_
              refine T.seq ?_
              refine T.cut (σ := Option Addr × Nat × List Value × List Blk) (l0 := [(5, _), (8, _), (9, _), (11, _), (13, _)]) (fun x => [(106, .slice x.1 (ts ++ [(Tm.mk ku nu asu), (Tm.mk kv nv asv), (Tm.mk 2 [] [(Tm.mk ku nu asu), (Tm.mk kv nv asv)])]).length x.2.1), (107, .int .i64 ((ts ++ [(Tm.mk ku nu asu), (Tm.mk kv nv asv), (Tm.mk 2 [] [(Tm.mk ku nu asu), (Tm.mk kv nv asv)])]).length : Nat)), (108, .int .i64 0)]) (fun x L => L = x.2.2.2 ++ (Yz ++ (Qz ++ (Yy ++ (Qy ++ (Yx ++ (Qx ++ (⟨b8, 0, [.int .i64 8, .string (bstr []), .slice (some ⟨b36, 0, none⟩) 2 2], 3⟩ :: ⟨b7, 0, [.int .i64 2, .string (bstr []), .slice ar 2 cr], 3⟩ :: (⟨⟨b36, some 26⟩, 0, [.int .i64 ku, .string (bstr nu), .slice au_ asu.length cu_] ++ [.int .i64 kv, .string (bstr nv), .slice av_ asv.length cv_], 2 * 3⟩ : Blk) :: (Yr ++ ((⟨⟨b32, some 26⟩, 0, [.int .i64 ku, .string (bstr nu), .slice au_ asu.length cu_] ++ [.int .i64 kv, .string (bstr nv), .slice av_ asv.length cv_], 2 * 3⟩ : Blk) :: ⟨b5, 0, [.int .i64 kv, .string (bstr nv), .slice av_ asv.length cv_], 3⟩ :: ⟨b4, 0, [.int .i64 ku, .string (bstr nu), .slice au_ asu.length cu_], 3⟩ :: G))))))))) ∧ RowR w0 (x.2.2.2 ++ (Yr ++ [(⟨⟨b32, some 26⟩, 0, [.int .i64 ku, .string (bstr nu), .slice au_ asu.length cu_] ++ [.int .i64 kv, .string (bstr nv), .slice av_ asv.length cv_], 2 * 3⟩ : Blk)])) 3 (.slice x.1 (ts ++ [(Tm.mk ku nu asu), (Tm.mk kv nv asv), (Tm.mk 2 [] [(Tm.mk ku nu asu), (Tm.mk kv nv asv)])]).length x.2.1) (ts ++ [(Tm.mk ku nu asu), (Tm.mk kv nv asv), (Tm.mk 2 [] [(Tm.mk ku nu asu), (Tm.mk kv nv asv)])]).length x.2.2.1 ∧ TmsR w0 (Yr ++ [(⟨⟨b32, some 26⟩, 0, [.int .i64 ku, .string (bstr nu), .slice au_ asu.length cu_] ++ [.int .i64 kv, .string (bstr nv), .slice av_ asv.length cv_], 2 * 3⟩ : Blk)]) (ts ++ [(Tm.mk ku nu asu), (Tm.mk kv nv asv), (Tm.mk 2 [] [(Tm.mk ku nu asu), (Tm.mk kv nv asv)])]) x.2.2.1) (.cons (by (conv => lhs; whnf) <;> rfl) (.cons (by (conv => lhs; whnf) <;> rfl) (.cons (by (conv => lhs; whnf) <;> rfl) (.cons (by (conv => lhs; whnf) <;> rfl) (.cons (by (conv => lhs; whnf) <;> rfl) .nil))))) ?_ ?_
              ·
                refine T.live (l := [(0, _), (4, _), (5, _), (7, _), (8, _), (9, _), (11, _), (13, _)]) (.cons (by (conv => lhs; whnf) <;> rfl) (.cons (by (conv => lhs; whnf) <;> rfl) (.cons (by (conv => lhs; whnf) <;> rfl) (.cons (by (conv => lhs; whnf) <;> rfl) (.cons (by (conv => lhs; whnf) <;> rfl) (.cons (by (conv => lhs; whnf) <;> rfl) (.cons (by (conv => lhs; whnf) <;> rfl) (.cons (by (conv => lhs; whnf) <;> rfl) .nil)))))))) (fun e_ => ?_)
                refine T.drawK (fun L_ => Find L_ ⟨b4, 0, [.int .i64 ku, .string (bstr nu), .slice au_ asu.length cu_], 3⟩ ∧ Find L_ ⟨b5, 0, [.int .i64 kv, .string (bstr nv), .slice av_ asv.length cv_], 3⟩ ∧ Find L_ ⟨b7, 0, [.int .i64 2, .string (bstr []), .slice ar 2 cr], 3⟩) mixed ⟨(by repeat (first | exact Find.here | assumption | apply Find.there | apply Find.far)), (by repeat (first | exact Find.here | assumption | apply Find.there | apply Find.far)), (by repeat (first | exact Find.here | assumption | apply Find.there | apply Find.far))⟩ ?_
                refine TK.take 1 rfl (by decide +kernel) (by decide +kernel) (by decide +kernel) rfl (fun _ _ _ h => h) (fun L_ ⟨k1_, k2_, k3_⟩ => V1.move' (by (conv => lhs; whnf) <;> rfl)) ?_
                refine TK.take 3 rfl (by decide +kernel) (by decide +kernel) (by decide +kernel) rfl (fun _ _ _ h => h) (fun L_ ⟨k1_, k2_, k3_⟩ => V1.loadN one_26 sz_26 rfl (RdN.whole (by repeat (first | exact Find.here | assumption | apply Find.there | apply Find.far))) (by rfl)) ?_
                refine TK.take 4 rfl (by decide +kernel) (by decide +kernel) (by decide +kernel) rfl (fun _ _ _ h => h) (fun L_ ⟨k1_, k2_, k3_⟩ => V1.loadN one_26 sz_26 rfl (RdN.whole (by repeat (first | exact Find.here | assumption | apply Find.there | apply Find.far))) (by rfl)) ?_
                refine TK.take 5 rfl (by decide +kernel) (by decide +kernel) (by decide +kernel) rfl (fun _ _ _ h => h) (fun L_ ⟨k1_, k2_, k3_⟩ => V1.loadN one_26 sz_26 rfl (RdN.whole (by repeat (first | exact Find.here | assumption | apply Find.there | apply Find.far))) (by rfl)) ?_
                refine TK.take 9 rfl (by decide +kernel) (by decide +kernel) (by decide +kernel) rfl (fun _ _ _ h => h) (fun L_ ⟨k1_, k2_, k3_⟩ => V1.move' (by (conv => lhs; whnf) <;> rfl)) ?_
                refine TK.two 0 6 (by decide +kernel) rfl rfl rfl rfl (T1.buildNone ty_23 sz_26 zr_26 (fun b99 => ?_)) (T1.buildMany (vss := [[.int .i64 ku, .string (bstr nu), .slice au_ asu.length cu_], [.int .i64 kv, .string (bstr nv), .slice av_ asv.length cv_], [.int .i64 2, .string (bstr []), .slice ar 2 cr]]) (os := [.tmp 102, .tmp 103, .tmp 104]) ty_23 sz_26 zr_26 (by decide) rfl (.cons rfl (.cons rfl (.cons rfl .nil))) rfl (by intro l hl; simp only [List.mem_cons, List.not_mem_nil, or_false] at hl; rcases hl with rfl | rfl | rfl <;> rfl) (fun b105 => ?_))
                ·
                  refine ⟨⟨(by repeat (first | exact Find.here | assumption | apply Find.there | apply Find.far)), (by repeat (first | exact Find.here | assumption | apply Find.there | apply Find.far)), (by repeat (first | exact Find.here | assumption | apply Find.there | apply Find.far))⟩, ?_⟩
                  refine TK.two 2 6 (by decide +kernel) rfl rfl rfl rfl (T1.appendG ty_23 kd_23 sz_26 by_26 zr_26 rfl (by decide) (by decide) rfl rfl (.inr rfl) (SlG.none0 b99) (hr.src _ rfl rfl _ (by repeat (first | exact Inc.nil | assumption | exact Inc.refl | exact Inc.here | apply Inc.app | apply Inc.cons (by repeat (first | exact Find.here | assumption | apply Find.there | apply Find.far)) | apply Inc.skip1 | apply Inc.skip))) ht.ones (ts.length) (by rw [ht.len]; simp) (by omega) (by repeat (first | exact PickS.last | exact PickS.one | exact PickS.here | exact PickS.nil | apply PickS.there | apply PickS.far)) (fun s1 Ls1 hsl1 => ?_)) (T1.buildMany (vss := [[.int .i64 ku, .string (bstr nu), .slice au_ asu.length cu_], [.int .i64 kv, .string (bstr nv), .slice av_ asv.length cv_], [.int .i64 2, .string (bstr []), .slice ar 2 cr]]) (os := [.tmp 102, .tmp 103, .tmp 104]) ty_23 sz_26 zr_26 (by decide) rfl (.cons rfl (.cons rfl (.cons rfl .nil))) rfl (by intro l hl; simp only [List.mem_cons, List.not_mem_nil, or_false] at hl; rcases hl with rfl | rfl | rfl <;> rfl) (fun b105 => ?_))
                  ·
                    rw [List.nil_append] at hsl1
                    refine ⟨⟨(by repeat (first | exact Find.here | assumption | apply Find.there | apply Find.far)), (by repeat (first | exact Find.here | assumption | apply Find.there | apply Find.far)), (by repeat (first | exact Find.here | assumption | apply Find.there | apply Find.far))⟩, ?_⟩
                    refine TK.one 6 (by decide +kernel) rfl rfl (T1.buildMany (vss := [[.int .i64 ku, .string (bstr nu), .slice au_ asu.length cu_], [.int .i64 kv, .string (bstr nv), .slice av_ asv.length cv_], [.int .i64 2, .string (bstr []), .slice ar 2 cr]]) (os := [.tmp 102, .tmp 103, .tmp 104]) ty_23 sz_26 zr_26 (by decide) rfl (.cons rfl (.cons rfl (.cons rfl .nil))) rfl (by intro l hl; simp only [List.mem_cons, List.not_mem_nil, or_false] at hl; rcases hl with rfl | rfl | rfl <;> rfl) (fun b105 => ?_))
                    refine ⟨⟨(by repeat (first | exact Find.here | assumption | apply Find.there | apply Find.far)), (by repeat (first | exact Find.here | assumption | apply Find.there | apply Find.far)), (by repeat (first | exact Find.here | assumption | apply Find.there | apply Find.far))⟩, ?_⟩
                    refine TK.one 7 (by decide +kernel) rfl rfl (T1.appendG ty_23 kd_23 sz_26 by_26 zr_26 rfl (by decide) (by decide) rfl rfl (.inr rfl) hsl1 (.sl (vs := [[.int .i64 ku, .string (bstr nu), .slice au_ asu.length cu_], [.int .i64 kv, .string (bstr nv), .slice av_ asv.length cv_], [.int .i64 2, .string (bstr []), .slice ar 2 cr]].flatten) (RdN.at0 (by repeat (first | exact Find.here | assumption | apply Find.there | apply Find.far))) (by rfl)) (ones rfl) (ts.length + 3) (by rw [ht.len]; show _ + 9 ≤ _; omega) (by omega) (by repeat (first | exact PickS.last | exact PickS.one | exact PickS.here | exact PickS.nil | apply PickS.there | apply PickS.far)) (fun s2 Ls2 hsl2 => ?_))
                    have htu : TmsR w0 (Yr ++ [(⟨⟨b32, some 26⟩, 0, [.int .i64 ku, .string (bstr nu), .slice au_ asu.length cu_] ++ [.int .i64 kv, .string (bstr nv), .slice av_ asv.length cv_], 2 * 3⟩ : Blk)]) (ts ++ [(Tm.mk ku nu asu), (Tm.mk kv nv asv), (Tm.mk 2 [] [(Tm.mk ku nu asu), (Tm.mk kv nv asv)])]) (vs ++ [[.int .i64 ku, .string (bstr nu), .slice au_ asu.length cu_], [.int .i64 kv, .string (bstr nv), .slice av_ asv.length cv_], [.int .i64 2, .string (bstr []), .slice ar 2 cr]].flatten) := (ht.more Inc.nil).app (by simpa using TmsR.cons (hcu.more Inc.nil) (TmsR.cons (hcv.more Inc.nil) (TmsR.one hcp)))
                    obtain ⟨au, cu, rfl, hru⟩ := hsl2.tm htu
                    refine ⟨⟨(by repeat (first | exact Find.here | assumption | apply Find.there | apply Find.far)), (by repeat (first | exact Find.here | assumption | apply Find.there | apply Find.far)), (by repeat (first | exact Find.here | assumption | apply Find.there | apply Find.far))⟩, ?_⟩
                    refine TK.take 8 rfl (by decide +kernel) (by decide +kernel) (by decide +kernel) rfl (fun _ _ _ h => h) (fun L_ ⟨k1_, k2_, k3_⟩ => V1.lenSl ty_23 rfl) ?_
                    refine TD.done (by decide +kernel) ?_
                    exact ⟨(au, cu, _, Ls2), _, _, trivial, (.cons rfl (.cons rfl (.cons rfl .nil))), (.cons rfl (.cons rfl (.cons rfl (.cons rfl (.cons rfl .nil))))), (by repeat (first | exact Take.nil | apply Take.one (by repeat (first | exact Pick.here | apply Pick.there | apply Pick.far)) | apply Take.seg (by repeat (first | exact PickS.last | exact PickS.one | exact PickS.here | exact PickS.nil | apply PickS.there | apply PickS.far)) | exact Take.last (by repeat (first | exact PickS.last | exact PickS.one | exact PickS.here | exact PickS.nil | apply PickS.there | apply PickS.far)))), ⟨rfl, hru, htu⟩⟩
                  ·
                    refine ⟨⟨(by repeat (first | exact Find.here | assumption | apply Find.there | apply Find.far)), (by repeat (first | exact Find.here | assumption | apply Find.there | apply Find.far)), (by repeat (first | exact Find.here | assumption | apply Find.there | apply Find.far))⟩, ?_⟩
                    refine TK.one 2 (by decide +kernel) rfl rfl (T1.appendG ty_23 kd_23 sz_26 by_26 zr_26 rfl (by decide) (by decide) rfl rfl (.inr rfl) (SlG.none0 b99) (hr.src _ rfl rfl _ (by repeat (first | exact Inc.nil | assumption | exact Inc.refl | exact Inc.here | apply Inc.app | apply Inc.cons (by repeat (first | exact Find.here | assumption | apply Find.there | apply Find.far)) | apply Inc.skip1 | apply Inc.skip))) ht.ones (ts.length) (by rw [ht.len]; simp) (by omega) (by repeat (first | exact PickS.last | exact PickS.one | exact PickS.here | exact PickS.nil | apply PickS.there | apply PickS.far)) (fun s1 Ls1 hsl1 => ?_))
                    rw [List.nil_append] at hsl1
                    refine ⟨⟨(by repeat (first | exact Find.here | assumption | apply Find.there | apply Find.far)), (by repeat (first | exact Find.here | assumption | apply Find.there | apply Find.far)), (by repeat (first | exact Find.here | assumption | apply Find.there | apply Find.far))⟩, ?_⟩
                    refine TK.one 7 (by decide +kernel) rfl rfl (T1.appendG ty_23 kd_23 sz_26 by_26 zr_26 rfl (by decide) (by decide) rfl rfl (.inr rfl) hsl1 (.sl (vs := [[.int .i64 ku, .string (bstr nu), .slice au_ asu.length cu_], [.int .i64 kv, .string (bstr nv), .slice av_ asv.length cv_], [.int .i64 2, .string (bstr []), .slice ar 2 cr]].flatten) (RdN.at0 (by repeat (first | exact Find.here | assumption | apply Find.there | apply Find.far))) (by rfl)) (ones rfl) (ts.length + 3) (by rw [ht.len]; show _ + 9 ≤ _; omega) (by omega) (by repeat (first | exact PickS.last | exact PickS.one | exact PickS.here | exact PickS.nil | apply PickS.there | apply PickS.far)) (fun s2 Ls2 hsl2 => ?_))
                    have htu : TmsR w0 (Yr ++ [(⟨⟨b32, some 26⟩, 0, [.int .i64 ku, .string (bstr nu), .slice au_ asu.length cu_] ++ [.int .i64 kv, .string (bstr nv), .slice av_ asv.length cv_], 2 * 3⟩ : Blk)]) (ts ++ [(Tm.mk ku nu asu), (Tm.mk kv nv asv), (Tm.mk 2 [] [(Tm.mk ku nu asu), (Tm.mk kv nv asv)])]) (vs ++ [[.int .i64 ku, .string (bstr nu), .slice au_ asu.length cu_], [.int .i64 kv, .string (bstr nv), .slice av_ asv.length cv_], [.int .i64 2, .string (bstr []), .slice ar 2 cr]].flatten) := (ht.more Inc.nil).app (by simpa using TmsR.cons (hcu.more Inc.nil) (TmsR.cons (hcv.more Inc.nil) (TmsR.one hcp)))
                    obtain ⟨au, cu, rfl, hru⟩ := hsl2.tm htu
                    refine ⟨⟨(by repeat (first | exact Find.here | assumption | apply Find.there | apply Find.far)), (by repeat (first | exact Find.here | assumption | apply Find.there | apply Find.far)), (by repeat (first | exact Find.here | assumption | apply Find.there | apply Find.far))⟩, ?_⟩
                    refine TK.take 8 rfl (by decide +kernel) (by decide +kernel) (by decide +kernel) rfl (fun _ _ _ h => h) (fun L_ ⟨k1_, k2_, k3_⟩ => V1.lenSl ty_23 rfl) ?_
                    refine TD.done (by decide +kernel) ?_
                    exact ⟨(au, cu, _, Ls2), _, _, trivial, (.cons rfl (.cons rfl (.cons rfl .nil))), (.cons rfl (.cons rfl (.cons rfl (.cons rfl (.cons rfl .nil))))), (by repeat (first | exact Take.nil | apply Take.one (by repeat (first | exact Pick.here | apply Pick.there | apply Pick.far)) | apply Take.seg (by repeat (first | exact PickS.last | exact PickS.one | exact PickS.here | exact PickS.nil | apply PickS.there | apply PickS.far)) | exact Take.last (by repeat (first | exact PickS.last | exact PickS.one | exact PickS.here | exact PickS.nil | apply PickS.there | apply PickS.far)))), ⟨rfl, hru, htu⟩⟩
                ·
                  refine ⟨⟨(by repeat (first | exact Find.here | assumption | apply Find.there | apply Find.far)), (by repeat (first | exact Find.here | assumption | apply Find.there | apply Find.far)), (by repeat (first | exact Find.here | assumption | apply Find.there | apply Find.far))⟩, ?_⟩
                  refine TK.one 0 (by decide +kernel) rfl rfl (T1.buildNone ty_23 sz_26 zr_26 (fun b99 => ?_))
                  refine ⟨⟨(by repeat (first | exact Find.here | assumption | apply Find.there | apply Find.far)), (by repeat (first | exact Find.here | assumption | apply Find.there | apply Find.far)), (by repeat (first | exact Find.here | assumption | apply Find.there | apply Find.far))⟩, ?_⟩
                  refine TK.one 2 (by decide +kernel) rfl rfl (T1.appendG ty_23 kd_23 sz_26 by_26 zr_26 rfl (by decide) (by decide) rfl rfl (.inr rfl) (SlG.none0 b99) (hr.src _ rfl rfl _ (by repeat (first | exact Inc.nil | assumption | exact Inc.refl | exact Inc.here | apply Inc.app | apply Inc.cons (by repeat (first | exact Find.here | assumption | apply Find.there | apply Find.far)) | apply Inc.skip1 | apply Inc.skip))) ht.ones (ts.length) (by rw [ht.len]; simp) (by omega) (by repeat (first | exact PickS.last | exact PickS.one | exact PickS.here | exact PickS.nil | apply PickS.there | apply PickS.far)) (fun s1 Ls1 hsl1 => ?_))
                  rw [List.nil_append] at hsl1
                  refine ⟨⟨(by repeat (first | exact Find.here | assumption | apply Find.there | apply Find.far)), (by repeat (first | exact Find.here | assumption | apply Find.there | apply Find.far)), (by repeat (first | exact Find.here | assumption | apply Find.there | apply Find.far))⟩, ?_⟩
                  refine TK.one 7 (by decide +kernel) rfl rfl (T1.appendG ty_23 kd_23 sz_26 by_26 zr_26 rfl (by decide) (by decide) rfl rfl (.inr rfl) hsl1 (.sl (vs := [[.int .i64 ku, .string (bstr nu), .slice au_ asu.length cu_], [.int .i64 kv, .string (bstr nv), .slice av_ asv.length cv_], [.int .i64 2, .string (bstr []), .slice ar 2 cr]].flatten) (RdN.at0 (by repeat (first | exact Find.here | assumption | apply Find.there | apply Find.far))) (by rfl)) (ones rfl) (ts.length + 3) (by rw [ht.len]; show _ + 9 ≤ _; omega) (by omega) (by repeat (first | exact PickS.last | exact PickS.one | exact PickS.here | exact PickS.nil | apply PickS.there | apply PickS.far)) (fun s2 Ls2 hsl2 => ?_))
                  have htu : TmsR w0 (Yr ++ [(⟨⟨b32, some 26⟩, 0, [.int .i64 ku, .string (bstr nu), .slice au_ asu.length cu_] ++ [.int .i64 kv, .string (bstr nv), .slice av_ asv.length cv_], 2 * 3⟩ : Blk)]) (ts ++ [(Tm.mk ku nu asu), (Tm.mk kv nv asv), (Tm.mk 2 [] [(Tm.mk ku nu asu), (Tm.mk kv nv asv)])]) (vs ++ [[.int .i64 ku, .string (bstr nu), .slice au_ asu.length cu_], [.int .i64 kv, .string (bstr nv), .slice av_ asv.length cv_], [.int .i64 2, .string (bstr []), .slice ar 2 cr]].flatten) := (ht.more Inc.nil).app (by simpa using TmsR.cons (hcu.more Inc.nil) (TmsR.cons (hcv.more Inc.nil) (TmsR.one hcp)))
                  obtain ⟨au, cu, rfl, hru⟩ := hsl2.tm htu
                  refine ⟨⟨(by repeat (first | exact Find.here | assumption | apply Find.there | apply Find.far)), (by repeat (first | exact Find.here | assumption | apply Find.there | apply Find.far)), (by repeat (first | exact Find.here | assumption | apply Find.there | apply Find.far))⟩, ?_⟩
                  refine TK.take 8 rfl (by decide +kernel) (by decide +kernel) (by decide +kernel) rfl (fun _ _ _ h => h) (fun L_ ⟨k1_, k2_, k3_⟩ => V1.lenSl ty_23 rfl) ?_
                  refine TD.done (by decide +kernel) ?_
                  exact ⟨(au, cu, _, Ls2), _, _, trivial, (.cons rfl (.cons rfl (.cons rfl .nil))), (.cons rfl (.cons rfl (.cons rfl (.cons rfl (.cons rfl .nil))))), (by repeat (first | exact Take.nil | apply Take.one (by repeat (first | exact Pick.here | apply Pick.there | apply Pick.far)) | apply Take.seg (by repeat (first | exact PickS.last | exact PickS.one | exact PickS.here | exact PickS.nil | apply PickS.there | apply PickS.far)) | exact Take.last (by repeat (first | exact PickS.last | exact PickS.one | exact PickS.here | exact PickS.nil | apply PickS.there | apply PickS.far)))), ⟨rfl, hru, htu⟩⟩
              ·
                rintro ⟨au, cu, vu, Lu⟩ e_ L ⟨rfl, hru, htu⟩
                simp only at hru htu
                have hc2 : ∀ t ∈ (ts ++ [(Tm.mk ku nu asu), (Tm.mk kv nv asv), (Tm.mk 2 [] [(Tm.mk ku nu asu), (Tm.mk kv nv asv)])]), chk t = 0 := chk_of hcts (by intro t ht; simp only [List.mem_cons, List.not_mem_nil, or_false] at ht; rcases ht with rfl | rfl | rfl; exact hcu0; exact hcv0; exact hcpr)
                obtain ⟨us, hus⟩ : ∃ us, us = (ts ++ [(Tm.mk ku nu asu), (Tm.mk kv nv asv), (Tm.mk 2 [] [(Tm.mk ku nu asu), (Tm.mk kv nv asv)])]) := ⟨_, rfl⟩
                have hlus : us.length = ts.length + 3 := by rw [hus]; simp
                rw [← hus] at hru htu hc2 ⊢
                obtain ⟨Lt, hLt, hI0, hI1, hI2, hI3, hI4, hI5, hI6, hI7, hI8, hI9, hI10, hI11, hI12, ⟨R_, hR_⟩⟩ : ∃ Lt, Lt = Yz ++ (Qz ++ (Yy ++ (Qy ++ (Yx ++ (Qx ++ (⟨b8, 0, [.int .i64 8, .string (bstr []), .slice (some ⟨b36, 0, none⟩) 2 2], 3⟩ :: ⟨b7, 0, [.int .i64 2, .string (bstr []), .slice ar 2 cr], 3⟩ :: (⟨⟨b36, some 26⟩, 0, [.int .i64 ku, .string (bstr nu), .slice au_ asu.length cu_] ++ [.int .i64 kv, .string (bstr nv), .slice av_ asv.length cv_], 2 * 3⟩ : Blk) :: (Yr ++ ((⟨⟨b32, some 26⟩, 0, [.int .i64 ku, .string (bstr nu), .slice au_ asu.length cu_] ++ [.int .i64 kv, .string (bstr nv), .slice av_ asv.length cv_], 2 * 3⟩ : Blk) :: ⟨b5, 0, [.int .i64 kv, .string (bstr nv), .slice av_ asv.length cv_], 3⟩ :: ⟨b4, 0, [.int .i64 ku, .string (bstr nu), .slice au_ asu.length cu_], 3⟩ :: G)))))))) ∧ Inc Yx Lt ∧ Inc Qx Lt ∧ Inc Yy Lt ∧ Inc Qy Lt ∧ Inc Yz Lt ∧ Inc Qz Lt ∧ Inc Yr Lt ∧ Find Lt (⟨⟨b32, some 26⟩, 0, [.int .i64 ku, .string (bstr nu), .slice au_ asu.length cu_] ++ [.int .i64 kv, .string (bstr nv), .slice av_ asv.length cv_], 2 * 3⟩ : Blk) ∧ Find Lt (⟨⟨b36, some 26⟩, 0, [.int .i64 ku, .string (bstr nu), .slice au_ asu.length cu_] ++ [.int .i64 kv, .string (bstr nv), .slice av_ asv.length cv_], 2 * 3⟩ : Blk) ∧ Find Lt ⟨b5, 0, [.int .i64 kv, .string (bstr nv), .slice av_ asv.length cv_], 3⟩ ∧ Find Lt ⟨b8, 0, [.int .i64 8, .string (bstr []), .slice (some ⟨b36, 0, none⟩) 2 2], 3⟩ ∧ Find Lt ⟨b7, 0, [.int .i64 2, .string (bstr []), .slice ar 2 cr], 3⟩ ∧ Find Lt ⟨b4, 0, [.int .i64 ku, .string (bstr nu), .slice au_ asu.length cu_], 3⟩ ∧ (∃ R_, PickS Lt G R_) := ⟨_, rfl, (by repeat (first | exact Inc.nil | assumption | exact Inc.refl | exact Inc.here | apply Inc.app | apply Inc.cons (by repeat (first | exact Find.here | assumption | apply Find.there | apply Find.far)) | apply Inc.skip1 | apply Inc.skip)), (by repeat (first | exact Inc.nil | assumption | exact Inc.refl | exact Inc.here | apply Inc.app | apply Inc.cons (by repeat (first | exact Find.here | assumption | apply Find.there | apply Find.far)) | apply Inc.skip1 | apply Inc.skip)), (by repeat (first | exact Inc.nil | assumption | exact Inc.refl | exact Inc.here | apply Inc.app | apply Inc.cons (by repeat (first | exact Find.here | assumption | apply Find.there | apply Find.far)) | apply Inc.skip1 | apply Inc.skip)), (by repeat (first | exact Inc.nil | assumption | exact Inc.refl | exact Inc.here | apply Inc.app | apply Inc.cons (by repeat (first | exact Find.here | assumption | apply Find.there | apply Find.far)) | apply Inc.skip1 | apply Inc.skip)), (by repeat (first | exact Inc.nil | assumption | exact Inc.refl | exact Inc.here | apply Inc.app | apply Inc.cons (by repeat (first | exact Find.here | assumption | apply Find.there | apply Find.far)) | apply Inc.skip1 | apply Inc.skip)), (by repeat (first | exact Inc.nil | assumption | exact Inc.refl | exact Inc.here | apply Inc.app | apply Inc.cons (by repeat (first | exact Find.here | assumption | apply Find.there | apply Find.far)) | apply Inc.skip1 | apply Inc.skip)), (by repeat (first | exact Inc.nil | assumption | exact Inc.refl | exact Inc.here | apply Inc.app | apply Inc.cons (by repeat (first | exact Find.here | assumption | apply Find.there | apply Find.far)) | apply Inc.skip1 | apply Inc.skip)), (by repeat (first | exact Find.here | assumption | apply Find.there | apply Find.far)), (by repeat (first | exact Find.here | assumption | apply Find.there | apply Find.far)), (by repeat (first | exact Find.here | assumption | apply Find.there | apply Find.far)), (by repeat (first | exact Find.here | assumption | apply Find.there | apply Find.far)), (by repeat (first | exact Find.here | assumption | apply Find.there | apply Find.far)), (by repeat (first | exact Find.here | assumption | apply Find.there | apply Find.far)), ⟨_, (by repeat (first | exact PickS.last | exact PickS.one | exact PickS.here | exact PickS.nil | apply PickS.there | apply PickS.far))⟩⟩
                rw [← hLt]
                clear hLt
                refine T.block ?_
                refine T.loopL (σ := Nat) (l0 := [(5, _), (8, _), (9, _), (11, _), (13, _), (106, _), (107, _)]) (fun x => [(108, .int .i64 (x : Nat))]) (fun i L => L = Lu ++ Lt ∧ i ≤ us.length) (fun i => us.length - i) 0 (.cons rfl .nil) (.cons (by (conv => lhs; whnf) <;> rfl) (.cons (by (conv => lhs; whnf) <;> rfl) (.cons (by (conv => lhs; whnf) <;> rfl) (.cons (by (conv => lhs; whnf) <;> rfl) (.cons (by (conv => lhs; whnf) <;> rfl) (.cons (by (conv => lhs; whnf) <;> rfl) (.cons (by (conv => lhs; whnf) <;> rfl) .nil))))))) (by repeat (first | exact Take.nil | apply Take.one (by repeat (first | exact Pick.here | apply Pick.there | apply Pick.far)) | apply Take.seg (by repeat (first | exact PickS.last | exact PickS.one | exact PickS.here | exact PickS.nil | apply PickS.there | apply PickS.far)) | exact Take.last (by repeat (first | exact PickS.last | exact PickS.one | exact PickS.here | exact PickS.nil | apply PickS.there | apply PickS.far)))) (⟨rfl, Nat.zero_le _⟩) ?_
                rintro i e_ L ⟨rfl, hi⟩
                refine T.seq ?_
                refine T.region ?_
                refine TL.cons rfl (T1.ltI_split rfl rfl (fun h9 => ?_) (fun h9 => ?_))
                ·
                  obtain ⟨x, hx0⟩ : ∃ x, us[i]? = some x := ⟨_, List.getElem?_eq_getElem (by omega)⟩
                  obtain ⟨bx, ox, cs_, rfl, hx, hrdx⟩ := hru.term htu hx0 P
                  obtain ⟨kx, nx, asx⟩ := x
                  obtain ⟨ax, cx, vsx, rfl, hrx, hlx, htx⟩ := hx.inv
                  try simp only at *
                  refine TL.nil ?_
                  refine T.seq ?_
                  refine T.cond_t rfl ?_
                  refine T.skip ?_
                  refine T.seq ?_
                  refine T.block ?_
                  refine T.seq ?_
                  refine T.region ?_
                  refine TL.cons rfl (V1.t (V1.indexAddrS ty_23 sz_26 rfl rfl (by omega) (by omega)) ?_)
                  refine TL.cons rfl (V1.t (V1.loadN (vs := [.int .i64 kx, .string (bstr nx), .slice ax asx.length cx]) one_26 sz_26 rfl (hrdx _ rfl rfl _ (by repeat (first | exact Inc.nil | assumption | exact Inc.refl | exact Inc.here | apply Inc.app | apply Inc.cons (by repeat (first | exact Find.here | assumption | apply Find.there | apply Find.far)) | apply Inc.skip1 | apply Inc.skip))) rfl) ?_)
                  refine TL.cons rfl (T1.allocN 3 zr_26 rfl (fun b16 => ?_))
                  refine TL.cons rfl (T1.storeN rfl rfl sz_26 (ones rfl) (by repeat (first | exact Sub.one | apply Sub.there | apply Sub.far)) (by rfl) (by rfl) ?_)
                  refine TL.nil ?_
                  refine T.seq ?_
                  refine T.region ?_
                  refine TL.cons rfl (V1.t (V1.loadN one_26 sz_26 rfl (RdN.whole (by repeat (first | exact Find.here | assumption | apply Find.there | apply Find.far))) (by rfl)) ?_)
                  refine TL.cons rfl (T1.callC has_18 rfl rfl (Parts_any w0 (Yr ++ [(⟨⟨b32, some 26⟩, 0, [.int .i64 ku, .string (bstr nu), .slice au_ asu.length cu_] ++ [.int .i64 kv, .string (bstr nv), .slice av_ asv.length cv_], 2 * 3⟩ : Blk)]) (.mk kx nx asx) _ hx (by have := (chk_iff.1 (hc2 _ (List.mem_of_getElem? hx0))).1; omega)) (by repeat (first | exact Inc.nil | assumption | exact Inc.refl | exact Inc.here | apply Inc.app | apply Inc.cons (by repeat (first | exact Find.here | assumption | apply Find.there | apply Find.far)) | apply Inc.skip1 | apply Inc.skip)) (fun v_ Yp hY => ?_))
                  obtain ⟨up, wp, hsp, hmp, hslp, htp⟩ := hY
                  obtain ⟨ap, cp, rfl, hrp⟩ := SlG.tm hslp htp
                  have hlp := npart_of hsp.nodup hmp
                  have hlp2 := npart_le (.mk kx nx asx)
                  have hlp3 := (chk_iff.1 (hc2 _ (List.mem_of_getElem? hx0))).1
                  refine TL.cons rfl (V1.t (V1.lenSl ty_23 rfl) ?_)
                  refine TL.cons rfl (V1.t (V1.move' (by (conv => lhs; whnf) <;> rfl)) ?_)
                  refine TL.nil ?_
                  refine T.block ?_
                  refine T.loopL (σ := Nat) (l0 := [(5, _), (8, _), (9, _), (11, _), (13, _), (106, _), (107, _), (108, _), (113, _), (114, _)]) (fun x => [(115, .int .i64 (x : Nat))]) (fun j L => L = Yp ++ (Lu ++ Lt) ∧ j ≤ up.length) (fun j => up.length - j) 0 (.cons rfl .nil) (.cons (by (conv => lhs; whnf) <;> rfl) (.cons (by (conv => lhs; whnf) <;> rfl) (.cons (by (conv => lhs; whnf) <;> rfl) (.cons (by (conv => lhs; whnf) <;> rfl) (.cons (by (conv => lhs; whnf) <;> rfl) (.cons (by (conv => lhs; whnf) <;> rfl) (.cons (by (conv => lhs; whnf) <;> rfl) (.cons (by (conv => lhs; whnf) <;> rfl) (.cons (by (conv => lhs; whnf) <;> rfl) (.cons (by (conv => lhs; whnf) <;> rfl) .nil)))))))))) (by repeat (first | exact Take.nil | apply Take.one (by repeat (first | exact Pick.here | apply Pick.there | apply Pick.far)) | apply Take.seg (by repeat (first | exact PickS.last | exact PickS.one | exact PickS.here | exact PickS.nil | apply PickS.there | apply PickS.far)) | exact Take.last (by repeat (first | exact PickS.last | exact PickS.one | exact PickS.here | exact PickS.nil | apply PickS.there | apply PickS.far)))) (⟨rfl, Nat.zero_le _⟩) ?_
                  rintro j e_ L ⟨rfl, hj⟩
                  refine T.seq ?_
                  refine T.region ?_
                  refine TL.cons rfl (T1.ltI_split rfl rfl (fun h10 => ?_) (fun h10 => ?_))
                  ·
                    obtain ⟨q, hq0⟩ : ∃ q, up[j]? = some q := ⟨_, List.getElem?_eq_getElem (by omega)⟩
                    obtain ⟨bq, oq, cs_, rfl, hq, hrdq⟩ := hrp.term htp hq0 P
                    obtain ⟨kq, nq, asq⟩ := q
                    obtain ⟨aq, cq, vsq, rfl, hrq, hlq, htq⟩ := hq.inv
                    try simp only at *
                    refine TL.nil ?_
                    refine T.seq ?_
                    refine T.cond_t rfl ?_
                    refine T.skip ?_
                    refine T.seq ?_
                    refine T.block ?_
                    refine T.seq ?_
                    refine T.region ?_
                    refine TL.cons rfl (V1.t (V1.indexAddrS ty_23 sz_26 rfl rfl (by omega) (by omega)) ?_)
                    refine TL.cons rfl (V1.t (V1.loadN (vs := [.int .i64 kq, .string (bstr nq), .slice aq asq.length cq]) one_26 sz_26 rfl (hrdq _ rfl rfl _ (by repeat (first | exact Inc.nil | assumption | exact Inc.refl | exact Inc.here | apply Inc.app | apply Inc.cons (by repeat (first | exact Find.here | assumption | apply Find.there | apply Find.far)) | apply Inc.skip1 | apply Inc.skip))) rfl) ?_)
                    refine TL.cons rfl (T1.allocN 3 zr_26 rfl (fun b18 => ?_))
                    refine TL.cons rfl (T1.storeN rfl rfl sz_26 (ones rfl) (by repeat (first | exact Sub.one | apply Sub.there | apply Sub.far)) (by rfl) (by rfl) ?_)
                    refine TL.nil ?_
                    refine T.seq ?_
                    refine T.drawDet' mixed (by decide +kernel) ?_
                    refine Det.cons 0 (ins := [(9, _)]) (.old (by (conv => lhs; whnf) <;> rfl) (by decide +kernel) .nil) (fun e_ => .inl ⟨rfl, V1.t (V1.move' (by (conv => lhs; whnf) <;> rfl)) ⟨rfl, rfl⟩⟩) ?_
                    refine Det.cons 1 (ins := [(18, _)]) (.old (by (conv => lhs; whnf) <;> rfl) (by decide +kernel) .nil) (fun e_ => .inl ⟨rfl, V1.t (V1.loadN one_26 sz_26 rfl (RdN.whole (by repeat (first | exact Find.here | assumption | apply Find.there | apply Find.far))) (by rfl)) ⟨rfl, rfl⟩⟩) ?_
                    refine Det.cons 2 (ins := [(119, _), (120, _)]) (v := .bool (ansB (ts ++ [(Tm.mk 2 [] [(Tm.mk ku nu asu), (Tm.mk kv nv asv)])]) (.mk kq nq asq))) (.new 0 1 (by decide +kernel) rfl rfl (.new 1 0 (by decide +kernel) rfl rfl .nil)) (fun e_ => .inl ⟨rfl, ?_⟩) ?_
                    · refine T1.callV has_20 rfl rfl (Makes_d hknx hkx (Yr ++ [(⟨⟨b32, some 26⟩, 0, [.int .i64 ku, .string (bstr nu), .slice au_ asu.length cu_] ++ [.int .i64 kv, .string (bstr nv), .slice av_ asv.length cv_], 2 * 3⟩ : Blk)]) (ct := [.int .i64 kq, .string (bstr nq), .slice aq asq.length cq]) hq) (by repeat (first | exact Inc.nil | assumption | exact Inc.refl | exact Inc.here | apply Inc.app | apply Inc.cons (by repeat (first | exact Find.here | assumption | apply Find.there | apply Find.far)) | apply Inc.skip1 | apply Inc.skip)) (fun v_ hv => ?_)
                      obtain rfl := hv
                      exact ⟨rfl, rfl⟩
                    refine Det.cons 3 (ins := [(11, _)]) (.old (by (conv => lhs; whnf) <;> rfl) (by decide +kernel) .nil) (fun e_ => .inl ⟨rfl, V1.t (V1.move' (by (conv => lhs; whnf) <;> rfl)) ⟨rfl, rfl⟩⟩) ?_
                    refine Det.cons 4 (ins := [(18, _)]) (.old (by (conv => lhs; whnf) <;> rfl) (by decide +kernel) .nil) (fun e_ => .inl ⟨rfl, V1.t (V1.loadN one_26 sz_26 rfl (RdN.whole (by repeat (first | exact Find.here | assumption | apply Find.there | apply Find.far))) (by rfl)) ⟨rfl, rfl⟩⟩) ?_
                    refine Det.cons 5 (ins := [(122, _), (123, _)]) (v := .bool (ansB (ts ++ [(Tm.mk ku nu asu), (Tm.mk kv nv asv)]) (.mk kq nq asq))) (.new 3 1 (by decide +kernel) rfl rfl (.new 4 0 (by decide +kernel) rfl rfl .nil)) (fun e_ => .inl ⟨rfl, ?_⟩) ?_
                    · refine T1.callV has_20 rfl rfl (Makes_d hkny hky (Yr ++ [(⟨⟨b32, some 26⟩, 0, [.int .i64 ku, .string (bstr nu), .slice au_ asu.length cu_] ++ [.int .i64 kv, .string (bstr nv), .slice av_ asv.length cv_], 2 * 3⟩ : Blk)]) (ct := [.int .i64 kq, .string (bstr nq), .slice aq asq.length cq]) hq) (by repeat (first | exact Inc.nil | assumption | exact Inc.refl | exact Inc.here | apply Inc.app | apply Inc.cons (by repeat (first | exact Find.here | assumption | apply Find.there | apply Find.far)) | apply Inc.skip1 | apply Inc.skip)) (fun v_ hv => ?_)
                      obtain rfl := hv
                      exact ⟨rfl, rfl⟩
                    refine Det.cons 6 (ins := [(121, _), (124, _)]) (.new 2 3 (by decide +kernel) rfl rfl (.new 5 0 (by decide +kernel) rfl rfl .nil)) (fun e_ => .inl ⟨rfl, V1.t (V1.neB (r := false) ty_4 rfl rfl (by rw [ansB_eq pair_same]; simp)) ⟨rfl, rfl⟩⟩) ?_
                    refine Det.nil 7 (l := [(5, _), (8, _), (9, _), (11, _), (13, _), (106, _), (107, _), (108, _), (113, _), (114, _), (115, _), (125, _)]) (.old (by (conv => lhs; whnf) <;> rfl) (by decide +kernel) (.old (by (conv => lhs; whnf) <;> rfl) (by decide +kernel) (.old (by (conv => lhs; whnf) <;> rfl) (by decide +kernel) (.old (by (conv => lhs; whnf) <;> rfl) (by decide +kernel) (.old (by (conv => lhs; whnf) <;> rfl) (by decide +kernel) (.old (by (conv => lhs; whnf) <;> rfl) (by decide +kernel) (.old (by (conv => lhs; whnf) <;> rfl) (by decide +kernel) (.old (by (conv => lhs; whnf) <;> rfl) (by decide +kernel) (.old (by (conv => lhs; whnf) <;> rfl) (by decide +kernel) (.old (by (conv => lhs; whnf) <;> rfl) (by decide +kernel) (.old (by (conv => lhs; whnf) <;> rfl) (by decide +kernel) (.new 6 0 (by decide +kernel) rfl rfl .nil)))))))))))) (fun e_ => ?_)
                    refine T.cond_f rfl ?_
                    refine T.skip ?_
                    refine T.region ?_
                    refine TL.cons rfl (V1.t (V1.add (c := ((j + 1 : Nat) : Int)) rfl rfl (by rw [wrap_i64 _ (by omega) (by omega)]; omega)) ?_)
                    refine TL.cons rfl (V1.t (V1.move' (by (conv => lhs; whnf) <;> rfl)) ?_)
                    refine TL.nil ?_
                    exact ⟨j + 1, Yp ++ (Lu ++ Lt), _, (by simp only; omega), (.cons rfl .nil), (.cons rfl (.cons rfl (.cons rfl (.cons rfl (.cons rfl (.cons rfl (.cons rfl (.cons rfl (.cons rfl (.cons rfl .nil)))))))))), (by repeat (first | exact Take.nil | apply Take.one (by repeat (first | exact Pick.here | apply Pick.there | apply Pick.far)) | apply Take.seg (by repeat (first | exact PickS.last | exact PickS.one | exact PickS.here | exact PickS.nil | apply PickS.there | apply PickS.far)) | exact Take.last (by repeat (first | exact PickS.last | exact PickS.one | exact PickS.here | exact PickS.nil | apply PickS.there | apply PickS.far)))), ⟨rfl, by omega⟩⟩
                  ·
                    refine TL.nil ?_
                    refine T.seq ?_
                    refine T.cond_f rfl ?_
                    refine T.exit ?_
                    refine T.region ?_
                    refine TL.cons rfl (V1.t (V1.add (c := ((i + 1 : Nat) : Int)) rfl rfl (by rw [wrap_i64 _ (by omega) (by omega)]; omega)) ?_)
                    refine TL.cons rfl (V1.t (V1.move' (by (conv => lhs; whnf) <;> rfl)) ?_)
                    refine TL.nil ?_
                    exact ⟨i + 1, Lu ++ Lt, _, (by simp only; omega), (.cons rfl .nil), (.cons rfl (.cons rfl (.cons rfl (.cons rfl (.cons rfl (.cons rfl (.cons rfl .nil))))))), (by repeat (first | exact Take.nil | apply Take.one (by repeat (first | exact Pick.here | apply Pick.there | apply Pick.far)) | apply Take.seg (by repeat (first | exact PickS.last | exact PickS.one | exact PickS.here | exact PickS.nil | apply PickS.there | apply PickS.far)) | exact Take.last (by repeat (first | exact PickS.last | exact PickS.one | exact PickS.here | exact PickS.nil | apply PickS.there | apply PickS.far)))), ⟨rfl, by omega⟩⟩
                ·
                  refine TL.nil ?_
                  refine T.seq ?_
                  refine T.cond_f rfl ?_
                  refine T.exit ?_
                  refine T.seq ?_
                  refine T.region ?_
                  refine TL.cons rfl (V1.t (V1.move' (by (conv => lhs; whnf) <;> rfl)) ?_)
                  refine TL.cons rfl (V1.t (V1.loadN one_26 sz_26 rfl (RdN.whole (by repeat (first | exact Find.here | assumption | apply Find.there | apply Find.far))) (by rfl)) ?_)
                  refine TL.cons rfl (T1.callV has_20 rfl rfl (Makes_k hknz hkz [] (ct := [.int .i64 kv, .string (bstr nv), .slice av_ asv.length cv_]) hcv) (by repeat (first | exact Inc.nil | assumption | exact Inc.refl | exact Inc.here | apply Inc.app | apply Inc.cons (by repeat (first | exact Find.here | assumption | apply Find.there | apply Find.far)) | apply Inc.skip1 | apply Inc.skip)) (fun v_ hv => ?_))
                  obtain ⟨r, rfl, hr_⟩ := hv
                  obtain rfl : r = true := hr_.2 (signed_had hcv0)
                  refine TL.cons rfl (V1.t (V1.move' (by (conv => lhs; whnf) <;> rfl)) ?_)
                  refine TL.cons rfl (V1.t (V1.move' (by (conv => lhs; whnf) <;> rfl)) ?_)
                  refine TL.cons rfl (V1.t (V1.loadN one_26 sz_26 rfl (RdN.whole (by repeat (first | exact Find.here | assumption | apply Find.there | apply Find.far))) (by rfl)) ?_)
                  refine TL.cons rfl (T1.callV has_20 rfl rfl (Makes_k hknz hkz [(⟨⟨b36, some 26⟩, 0, [.int .i64 ku, .string (bstr nu), .slice au_ asu.length cu_] ++ [.int .i64 kv, .string (bstr nv), .slice av_ asv.length cv_], 2 * 3⟩ : Blk)] (ct := [.int .i64 8, .string (bstr []), .slice (some ⟨b36, 0, none⟩) 2 2]) hsg) (by repeat (first | exact Inc.nil | assumption | exact Inc.refl | exact Inc.here | apply Inc.app | apply Inc.cons (by repeat (first | exact Find.here | assumption | apply Find.there | apply Find.far)) | apply Inc.skip1 | apply Inc.skip)) (fun v_ hv => ?_))
                  obtain ⟨r, rfl, hr_⟩ := hv
                  obtain rfl : r = true := hr_.2 (Ans.known (by simp) hcsg)
                  refine TL.cons rfl (V1.t (V1.pick rfl (by (conv => lhs; whnf) <;> rfl)) ?_)
                  refine TL.cons rfl (V1.t (V1.assign' (by (conv => lhs; whnf) <;> rfl)) ?_)
                  refine TL.nil ?_
                  refine T.ret ?_
                  exact ⟨_, G, _, .cons (.tmp (by (conv => lhs; whnf) <;> rfl)) .nil, (Take.last (PickS.far hR_)), rfl, rfl⟩

end Go.Proofs.YtlpkcbkflfbclaaDoor.S
