/- Who knows more makes no less. -/
import Derived.Test.YtlpkcbkflfbclaaDoorT15
import Derived.Test.YtlpkcbkflfbclaaDoorTmSpec6
namespace Go.Proofs.YtlpkcbkflfbclaaDoor.S
open Go.RowKit

theorem drop_rev {ts : List Tm} {i : Nat} {x : Tm} (hx : ts[i]? = some x) : (ts.drop i).reverse = (ts.drop (i + 1)).reverse ++ [x] := by
  have hi := (List.getElem?_eq_some_iff.1 hx).1
  rw [List.drop_eq_getElem_cons hi, List.reverse_cons, show ts[i] = x from by rw [List.getElem?_eq_getElem hi] at hx; exact Option.some.inj hx]
theorem nparts_rev (ts : List Tm) : nparts ts.reverse = nparts ts := by
  induction ts with
  | nil => rfl
  | cons a ts ih => rw [List.reverse_cons, nparts_app, ih, nparts_cons, nparts_cons, nparts_nil]; omega
set_option maxRecDepth 100000 in
set_option maxHeartbeats 8000000 in
theorem KnowsGrows_any (w0 : World) {ts : List Tm} {a : Option Addr} {c : Nat} {vs : List Value} (hr : RowR w0 [] 3 (.slice a ts.length c) ts.length vs) (ht : TmsR w0 [] ts vs) (hb : ts.length * 48 ≤ 140737488351232) {u v : Tm} {cu cv : List Value} (hcu : TmR w0 [] u cu) (hcv : TmR w0 [] v cv) : FnV P 7 [.slice a ts.length c, .agg cu.toArray, .agg cv.toArray] w0 [] (fun v => v = .bool true) := by
  obtain ⟨ku, nu, asu⟩ := u
  obtain ⟨au_, cu_, vsu, rfl, hru, hlu, htu⟩ := hcu.inv
  obtain ⟨kv, nv, asv⟩ := v
  obtain ⟨av_, cv_, vsv, rfl, hrv, hlv, htv⟩ := hcv.inv
  refine FnV.of 139 [.tmp 6] Go.Proofs.Tryd.func7 rfl rfl rfl rfl (fun G hG => ?_)
  refine T.seq ?_
  refine T.region ?_
  refine TL.cons rfl (T1.boxN 3 rfl rfl (fun b4 => ?_))
  refine TL.cons rfl (T1.boxN 3 rfl rfl (fun b5 => ?_))
  refine TL.cons rfl (V1.t (V1.assign' (by (conv => lhs; whnf) <;> rfl)) ?_)
  refine TL.nil ?_
  refine T.seq ?_
  refine T.seq ?_
  refine T.region ?_
  refine TL.cons rfl (T1.callV has_24 rfl rfl (opens_any w0) (by repeat (first | exact Inc.nil | assumption | exact Inc.refl | exact Inc.here | apply Inc.app | apply Inc.cons (by repeat (first | exact Find.here | assumption | apply Find.there | apply Find.far)) | apply Inc.skip1 | apply Inc.skip)) (fun v_ hv => ?_))
  obtain rfl := hv
  refine TL.cons rfl (V1.t (V1.not rfl rfl) ?_)
  refine TL.nil ?_
  refine T.cond_f rfl ?_
  refine T.skip ?_
  refine T.cut (σ := Unit) (l0 := [(0, _), (4, _), (5, _)]) (fun x => []) (fun _ L => L = ⟨b5, 0, [.int .i64 kv, .string (bstr nv), .slice av_ asv.length cv_], 3⟩ :: ⟨b4, 0, [.int .i64 ku, .string (bstr nu), .slice au_ asu.length cu_], 3⟩ :: G ∧ (∀ x ∈ ts ++ [(Tm.mk ku nu asu)] ++ [(Tm.mk kv nv asv)], chk x = 0) ∧ nparts (ts ++ [(Tm.mk ku nu asu)] ++ [(Tm.mk kv nv asv)]) ≤ 60) (.cons (by (conv => lhs; whnf) <;> rfl) (.cons (by (conv => lhs; whnf) <;> rfl) (.cons (by (conv => lhs; whnf) <;> rfl) .nil))) ?_ ?_
  ·
    refine T.seq ?_
    refine T.drawK (fun L_ => Find L_ ⟨b4, 0, [.int .i64 ku, .string (bstr nu), .slice au_ asu.length cu_], 3⟩ ∧ Find L_ ⟨b5, 0, [.int .i64 kv, .string (bstr nv), .slice av_ asv.length cv_], 3⟩) mixed ⟨(by repeat (first | exact Find.here | assumption | apply Find.there | apply Find.far)), (by repeat (first | exact Find.here | assumption | apply Find.there | apply Find.far))⟩ ?_
    refine TK.take 1 rfl (by decide +kernel) (by decide +kernel) (by decide +kernel) rfl (fun _ _ _ h => h) (fun L_ ⟨k1_, k2_⟩ => V1.move' (by (conv => lhs; whnf) <;> rfl)) ?_
    refine TK.take 3 rfl (by decide +kernel) (by decide +kernel) (by decide +kernel) rfl (fun _ _ _ h => h) (fun L_ ⟨k1_, k2_⟩ => V1.loadN one_26 sz_26 rfl (RdN.whole (by repeat (first | exact Find.here | assumption | apply Find.there | apply Find.far))) (by rfl)) ?_
    refine TK.take 6 rfl (by decide +kernel) (by decide +kernel) (by decide +kernel) rfl (fun _ _ _ h => h) (fun L_ ⟨k1_, k2_⟩ => V1.loadN one_26 sz_26 rfl (RdN.whole (by repeat (first | exact Find.here | assumption | apply Find.there | apply Find.far))) (by rfl)) ?_
    refine TK.two 0 4 (by decide +kernel) rfl rfl rfl rfl (T1.buildNone ty_23 sz_26 zr_26 (fun b18 => ?_)) (T1.buildOne (cs := [.int .i64 ku, .string (bstr nu), .slice au_ asu.length cu_]) ty_23 sz_26 zr_26 (by decide) rfl (by rfl) (fun b22 => ?_))
    ·
      refine ⟨⟨(by repeat (first | exact Find.here | assumption | apply Find.there | apply Find.far)), (by repeat (first | exact Find.here | assumption | apply Find.there | apply Find.far))⟩, ?_⟩
      refine TK.two 2 4 (by decide +kernel) rfl rfl rfl rfl (T1.appendG ty_23 kd_23 sz_26 by_26 zr_26 rfl (by decide) (by decide) rfl rfl (.inr rfl) (SlG.none0 b18) (hr.src _ rfl rfl _ (by repeat (first | exact Inc.nil | assumption | exact Inc.refl | exact Inc.here | apply Inc.app | apply Inc.cons (by repeat (first | exact Find.here | assumption | apply Find.there | apply Find.far)) | apply Inc.skip1 | apply Inc.skip))) ht.ones (ts.length) (by rw [ht.len]; simp) (by omega) (by repeat (first | exact PickS.last | exact PickS.one | exact PickS.here | exact PickS.nil | apply PickS.there | apply PickS.far)) (fun s1 Ls1 hsl1 => ?_)) (T1.buildOne (cs := [.int .i64 ku, .string (bstr nu), .slice au_ asu.length cu_]) ty_23 sz_26 zr_26 (by decide) rfl (by rfl) (fun b22 => ?_))
      ·
        rw [List.nil_append] at hsl1
        refine ⟨⟨(by repeat (first | exact Find.here | assumption | apply Find.there | apply Find.far)), (by repeat (first | exact Find.here | assumption | apply Find.there | apply Find.far))⟩, ?_⟩
        refine TK.one 4 (by decide +kernel) rfl rfl (T1.buildOne (cs := [.int .i64 ku, .string (bstr nu), .slice au_ asu.length cu_]) ty_23 sz_26 zr_26 (by decide) rfl (by rfl) (fun b22 => ?_))
        refine ⟨⟨(by repeat (first | exact Find.here | assumption | apply Find.there | apply Find.far)), (by repeat (first | exact Find.here | assumption | apply Find.there | apply Find.far))⟩, ?_⟩
        refine TK.one 5 (by decide +kernel) rfl rfl (T1.appendG ty_23 kd_23 sz_26 by_26 zr_26 rfl (by decide) (by decide) rfl rfl (.inr rfl) hsl1 (.sl (vs := [.int .i64 ku, .string (bstr nu), .slice au_ asu.length cu_]) (RdN.at0 (by repeat (first | exact Find.here | assumption | apply Find.there | apply Find.far))) (by rfl)) (ones rfl) (ts.length + 1) (by rw [ht.len]; show _ + 3 ≤ _; omega) (by omega) (by repeat (first | exact PickS.last | exact PickS.one | exact PickS.here | exact PickS.nil | apply PickS.there | apply PickS.far)) (fun s2 Ls2 hsl2 => ?_))
        have htu : TmsR w0 [] (ts ++ [(Tm.mk ku nu asu)]) (vs ++ [.int .i64 ku, .string (bstr nu), .slice au_ asu.length cu_]) := ht.app (TmsR.one hcu)
        obtain ⟨au, cu, rfl, hru⟩ := hsl2.tm htu
        refine ⟨⟨(by repeat (first | exact Find.here | assumption | apply Find.there | apply Find.far)), (by repeat (first | exact Find.here | assumption | apply Find.there | apply Find.far))⟩, ?_⟩
        refine TK.one 7 (by decide +kernel) rfl rfl (T1.callV has_27 rfl rfl (few_any w0 (Ls2 ++ []) rfl hru (htu.more Inc.nil) (t := (Tm.mk kv nv asv)) (hcv.more Inc.nil) (by rw [List.length_append, List.length_singleton]; omega)) (by repeat (first | exact Inc.nil | assumption | exact Inc.refl | exact Inc.here | apply Inc.app | apply Inc.cons (by repeat (first | exact Find.here | assumption | apply Find.there | apply Find.far)) | apply Inc.skip1 | apply Inc.skip)) (fun v_ hv => ?_))
        obtain ⟨r, rfl, hfew⟩ := hv
        rcases Bool.eq_false_or_eq_true r with hrb | hrb <;> subst hrb
        ·
          obtain ⟨hcs, hnp⟩ := hfew.1 rfl
          refine ⟨⟨(by repeat (first | exact Find.here | assumption | apply Find.there | apply Find.far)), (by repeat (first | exact Find.here | assumption | apply Find.there | apply Find.far))⟩, ?_⟩
          refine TK.take 8 rfl (by decide +kernel) (by decide +kernel) (by decide +kernel) rfl (fun _ _ _ h => h) (fun L_ ⟨k1_, k2_⟩ => V1.not rfl rfl) ?_
          refine TD.done (by decide +kernel) ?_
          refine T.cond_f rfl ?_
          refine T.skip ?_
          exact ⟨(), _, _, trivial, .nil, (.cons rfl (.cons rfl (.cons rfl .nil))), (by repeat (first | exact Take.nil | apply Take.one (by repeat (first | exact Pick.here | apply Pick.there | apply Pick.far)) | apply Take.seg (by repeat (first | exact PickS.last | exact PickS.one | exact PickS.here | exact PickS.nil | apply PickS.there | apply PickS.far)) | exact Take.last (by repeat (first | exact PickS.last | exact PickS.one | exact PickS.here | exact PickS.nil | apply PickS.there | apply PickS.far)))), ⟨rfl, hcs, hnp⟩⟩
        ·
          refine ⟨⟨(by repeat (first | exact Find.here | assumption | apply Find.there | apply Find.far)), (by repeat (first | exact Find.here | assumption | apply Find.there | apply Find.far))⟩, ?_⟩
          refine TK.take 8 rfl (by decide +kernel) (by decide +kernel) (by decide +kernel) rfl (fun _ _ _ h => h) (fun L_ ⟨k1_, k2_⟩ => V1.not rfl rfl) ?_
          refine TD.done (by decide +kernel) ?_
          refine T.cond_t rfl ?_
          refine T.seq ?_
          refine T.region ?_
          refine TL.cons rfl (V1.t (V1.assign' (by (conv => lhs; whnf) <;> rfl)) ?_)
          refine TL.nil ?_
          refine T.ret ?_
          exact ⟨_, G, _, .cons (.tmp (by (conv => lhs; whnf) <;> rfl)) .nil, (by repeat (first | exact Take.nil | apply Take.one (by repeat (first | exact Pick.here | apply Pick.there | apply Pick.far)) | apply Take.seg (by repeat (first | exact PickS.last | exact PickS.one | exact PickS.here | exact PickS.nil | apply PickS.there | apply PickS.far)) | exact Take.last (by repeat (first | exact PickS.last | exact PickS.one | exact PickS.here | exact PickS.nil | apply PickS.there | apply PickS.far)))), rfl, rfl⟩
      ·
        refine ⟨⟨(by repeat (first | exact Find.here | assumption | apply Find.there | apply Find.far)), (by repeat (first | exact Find.here | assumption | apply Find.there | apply Find.far))⟩, ?_⟩
        refine TK.one 2 (by decide +kernel) rfl rfl (T1.appendG ty_23 kd_23 sz_26 by_26 zr_26 rfl (by decide) (by decide) rfl rfl (.inr rfl) (SlG.none0 b18) (hr.src _ rfl rfl _ (by repeat (first | exact Inc.nil | assumption | exact Inc.refl | exact Inc.here | apply Inc.app | apply Inc.cons (by repeat (first | exact Find.here | assumption | apply Find.there | apply Find.far)) | apply Inc.skip1 | apply Inc.skip))) ht.ones (ts.length) (by rw [ht.len]; simp) (by omega) (by repeat (first | exact PickS.last | exact PickS.one | exact PickS.here | exact PickS.nil | apply PickS.there | apply PickS.far)) (fun s1 Ls1 hsl1 => ?_))
        rw [List.nil_append] at hsl1
        refine ⟨⟨(by repeat (first | exact Find.here | assumption | apply Find.there | apply Find.far)), (by repeat (first | exact Find.here | assumption | apply Find.there | apply Find.far))⟩, ?_⟩
        refine TK.one 5 (by decide +kernel) rfl rfl (T1.appendG ty_23 kd_23 sz_26 by_26 zr_26 rfl (by decide) (by decide) rfl rfl (.inr rfl) hsl1 (.sl (vs := [.int .i64 ku, .string (bstr nu), .slice au_ asu.length cu_]) (RdN.at0 (by repeat (first | exact Find.here | assumption | apply Find.there | apply Find.far))) (by rfl)) (ones rfl) (ts.length + 1) (by rw [ht.len]; show _ + 3 ≤ _; omega) (by omega) (by repeat (first | exact PickS.last | exact PickS.one | exact PickS.here | exact PickS.nil | apply PickS.there | apply PickS.far)) (fun s2 Ls2 hsl2 => ?_))
        have htu : TmsR w0 [] (ts ++ [(Tm.mk ku nu asu)]) (vs ++ [.int .i64 ku, .string (bstr nu), .slice au_ asu.length cu_]) := ht.app (TmsR.one hcu)
        obtain ⟨au, cu, rfl, hru⟩ := hsl2.tm htu
        refine ⟨⟨(by repeat (first | exact Find.here | assumption | apply Find.there | apply Find.far)), (by repeat (first | exact Find.here | assumption | apply Find.there | apply Find.far))⟩, ?_⟩
        refine TK.one 7 (by decide +kernel) rfl rfl (T1.callV has_27 rfl rfl (few_any w0 (Ls2 ++ []) rfl hru (htu.more Inc.nil) (t := (Tm.mk kv nv asv)) (hcv.more Inc.nil) (by rw [List.length_append, List.length_singleton]; omega)) (by repeat (first | exact Inc.nil | assumption | exact Inc.refl | exact Inc.here | apply Inc.app | apply Inc.cons (by repeat (first | exact Find.here | assumption | apply Find.there | apply Find.far)) | apply Inc.skip1 | apply Inc.skip)) (fun v_ hv => ?_))
        obtain ⟨r, rfl, hfew⟩ := hv
        rcases Bool.eq_false_or_eq_true r with hrb | hrb <;> subst hrb
        ·
          obtain ⟨hcs, hnp⟩ := hfew.1 rfl
          refine ⟨⟨(by repeat (first | exact Find.here | assumption | apply Find.there | apply Find.far)), (by repeat (first | exact Find.here | assumption | apply Find.there | apply Find.far))⟩, ?_⟩
          refine TK.take 8 rfl (by decide +kernel) (by decide +kernel) (by decide +kernel) rfl (fun _ _ _ h => h) (fun L_ ⟨k1_, k2_⟩ => V1.not rfl rfl) ?_
          refine TD.done (by decide +kernel) ?_
          refine T.cond_f rfl ?_
          refine T.skip ?_
          exact ⟨(), _, _, trivial, .nil, (.cons rfl (.cons rfl (.cons rfl .nil))), (by repeat (first | exact Take.nil | apply Take.one (by repeat (first | exact Pick.here | apply Pick.there | apply Pick.far)) | apply Take.seg (by repeat (first | exact PickS.last | exact PickS.one | exact PickS.here | exact PickS.nil | apply PickS.there | apply PickS.far)) | exact Take.last (by repeat (first | exact PickS.last | exact PickS.one | exact PickS.here | exact PickS.nil | apply PickS.there | apply PickS.far)))), ⟨rfl, hcs, hnp⟩⟩
        ·
          refine ⟨⟨(by repeat (first | exact Find.here | assumption | apply Find.there | apply Find.far)), (by repeat (first | exact Find.here | assumption | apply Find.there | apply Find.far))⟩, ?_⟩
          refine TK.take 8 rfl (by decide +kernel) (by decide +kernel) (by decide +kernel) rfl (fun _ _ _ h => h) (fun L_ ⟨k1_, k2_⟩ => V1.not rfl rfl) ?_
          refine TD.done (by decide +kernel) ?_
          refine T.cond_t rfl ?_
          refine T.seq ?_
          refine T.region ?_
          refine TL.cons rfl (V1.t (V1.assign' (by (conv => lhs; whnf) <;> rfl)) ?_)
          refine TL.nil ?_
          refine T.ret ?_
          exact ⟨_, G, _, .cons (.tmp (by (conv => lhs; whnf) <;> rfl)) .nil, (by repeat (first | exact Take.nil | apply Take.one (by repeat (first | exact Pick.here | apply Pick.there | apply Pick.far)) | apply Take.seg (by repeat (first | exact PickS.last | exact PickS.one | exact PickS.here | exact PickS.nil | apply PickS.there | apply PickS.far)) | exact Take.last (by repeat (first | exact PickS.last | exact PickS.one | exact PickS.here | exact PickS.nil | apply PickS.there | apply PickS.far)))), rfl, rfl⟩
    ·
      refine ⟨⟨(by repeat (first | exact Find.here | assumption | apply Find.there | apply Find.far)), (by repeat (first | exact Find.here | assumption | apply Find.there | apply Find.far))⟩, ?_⟩
      refine TK.one 0 (by decide +kernel) rfl rfl (T1.buildNone ty_23 sz_26 zr_26 (fun b18 => ?_))
      refine ⟨⟨(by repeat (first | exact Find.here | assumption | apply Find.there | apply Find.far)), (by repeat (first | exact Find.here | assumption | apply Find.there | apply Find.far))⟩, ?_⟩
      refine TK.one 2 (by decide +kernel) rfl rfl (T1.appendG ty_23 kd_23 sz_26 by_26 zr_26 rfl (by decide) (by decide) rfl rfl (.inr rfl) (SlG.none0 b18) (hr.src _ rfl rfl _ (by repeat (first | exact Inc.nil | assumption | exact Inc.refl | exact Inc.here | apply Inc.app | apply Inc.cons (by repeat (first | exact Find.here | assumption | apply Find.there | apply Find.far)) | apply Inc.skip1 | apply Inc.skip))) ht.ones (ts.length) (by rw [ht.len]; simp) (by omega) (by repeat (first | exact PickS.last | exact PickS.one | exact PickS.here | exact PickS.nil | apply PickS.there | apply PickS.far)) (fun s1 Ls1 hsl1 => ?_))
      rw [List.nil_append] at hsl1
      refine ⟨⟨(by repeat (first | exact Find.here | assumption | apply Find.there | apply Find.far)), (by repeat (first | exact Find.here | assumption | apply Find.there | apply Find.far))⟩, ?_⟩
      refine TK.one 5 (by decide +kernel) rfl rfl (T1.appendG ty_23 kd_23 sz_26 by_26 zr_26 rfl (by decide) (by decide) rfl rfl (.inr rfl) hsl1 (.sl (vs := [.int .i64 ku, .string (bstr nu), .slice au_ asu.length cu_]) (RdN.at0 (by repeat (first | exact Find.here | assumption | apply Find.there | apply Find.far))) (by rfl)) (ones rfl) (ts.length + 1) (by rw [ht.len]; show _ + 3 ≤ _; omega) (by omega) (by repeat (first | exact PickS.last | exact PickS.one | exact PickS.here | exact PickS.nil | apply PickS.there | apply PickS.far)) (fun s2 Ls2 hsl2 => ?_))
      have htu : TmsR w0 [] (ts ++ [(Tm.mk ku nu asu)]) (vs ++ [.int .i64 ku, .string (bstr nu), .slice au_ asu.length cu_]) := ht.app (TmsR.one hcu)
      obtain ⟨au, cu, rfl, hru⟩ := hsl2.tm htu
      refine ⟨⟨(by repeat (first | exact Find.here | assumption | apply Find.there | apply Find.far)), (by repeat (first | exact Find.here | assumption | apply Find.there | apply Find.far))⟩, ?_⟩
      refine TK.one 7 (by decide +kernel) rfl rfl (T1.callV has_27 rfl rfl (few_any w0 (Ls2 ++ []) rfl hru (htu.more Inc.nil) (t := (Tm.mk kv nv asv)) (hcv.more Inc.nil) (by rw [List.length_append, List.length_singleton]; omega)) (by repeat (first | exact Inc.nil | assumption | exact Inc.refl | exact Inc.here | apply Inc.app | apply Inc.cons (by repeat (first | exact Find.here | assumption | apply Find.there | apply Find.far)) | apply Inc.skip1 | apply Inc.skip)) (fun v_ hv => ?_))
      obtain ⟨r, rfl, hfew⟩ := hv
      rcases Bool.eq_false_or_eq_true r with hrb | hrb <;> subst hrb
      ·
        obtain ⟨hcs, hnp⟩ := hfew.1 rfl
        refine ⟨⟨(by repeat (first | exact Find.here | assumption | apply Find.there | apply Find.far)), (by repeat (first | exact Find.here | assumption | apply Find.there | apply Find.far))⟩, ?_⟩
        refine TK.take 8 rfl (by decide +kernel) (by decide +kernel) (by decide +kernel) rfl (fun _ _ _ h => h) (fun L_ ⟨k1_, k2_⟩ => V1.not rfl rfl) ?_
        refine TD.done (by decide +kernel) ?_
        refine T.cond_f rfl ?_
        refine T.skip ?_
        exact ⟨(), _, _, trivial, .nil, (.cons rfl (.cons rfl (.cons rfl .nil))), (by repeat (first | exact Take.nil | apply Take.one (by repeat (first | exact Pick.here | apply Pick.there | apply Pick.far)) | apply Take.seg (by repeat (first | exact PickS.last | exact PickS.one | exact PickS.here | exact PickS.nil | apply PickS.there | apply PickS.far)) | exact Take.last (by repeat (first | exact PickS.last | exact PickS.one | exact PickS.here | exact PickS.nil | apply PickS.there | apply PickS.far)))), ⟨rfl, hcs, hnp⟩⟩
      ·
        refine ⟨⟨(by repeat (first | exact Find.here | assumption | apply Find.there | apply Find.far)), (by repeat (first | exact Find.here | assumption | apply Find.there | apply Find.far))⟩, ?_⟩
        refine TK.take 8 rfl (by decide +kernel) (by decide +kernel) (by decide +kernel) rfl (fun _ _ _ h => h) (fun L_ ⟨k1_, k2_⟩ => V1.not rfl rfl) ?_
        refine TD.done (by decide +kernel) ?_
        refine T.cond_t rfl ?_
        refine T.seq ?_
        refine T.region ?_
        refine TL.cons rfl (V1.t (V1.assign' (by (conv => lhs; whnf) <;> rfl)) ?_)
        refine TL.nil ?_
        refine T.ret ?_
        exact ⟨_, G, _, .cons (.tmp (by (conv => lhs; whnf) <;> rfl)) .nil, (by repeat (first | exact Take.nil | apply Take.one (by repeat (first | exact Pick.here | apply Pick.there | apply Pick.far)) | apply Take.seg (by repeat (first | exact PickS.last | exact PickS.one | exact PickS.here | exact PickS.nil | apply PickS.there | apply PickS.far)) | exact Take.last (by repeat (first | exact PickS.last | exact PickS.one | exact PickS.here | exact PickS.nil | apply PickS.there | apply PickS.far)))), rfl, rfl⟩
  ·
    rintro _ e_ L ⟨rfl, hcs, hnp⟩
    have hcts : ∀ t ∈ ts, chk t = 0 := fun t ht => hcs t (by simp [ht])
    have hcu0 : chk (Tm.mk ku nu asu) = 0 := hcs _ (by simp)
    have hcv0 : chk (Tm.mk kv nv asv) = 0 := hcs _ (by simp)
    have hcm : ∀ t ∈ ts ++ [(Tm.mk ku nu asu)], chk t = 0 := fun t ht => hcs t (List.mem_append_left _ ht)
    rw [nparts_app] at hnp
    have hnm : nparts (ts ++ [(Tm.mk ku nu asu)]) ≤ 60 := by omega
    have hnt : nparts ts ≤ 60 := by rw [nparts_app] at hnm; omega
    refine T.seq ?_
    refine T.region ?_
    refine TL.cons rfl (V1.t (V1.move' (by (conv => lhs; whnf) <;> rfl)) ?_)
    refine TL.cons rfl (T1.callC has_19 rfl rfl (New_kn w0 [] rfl hr ht hcts (by omega)) (by repeat (first | exact Inc.nil | assumption | exact Inc.refl | exact Inc.here | apply Inc.app | apply Inc.cons (by repeat (first | exact Find.here | assumption | apply Find.there | apply Find.far)) | apply Inc.skip1 | apply Inc.skip)) (fun v_ Ya hY => ?_))
    obtain ⟨kba, la, rfl, hkna, hka⟩ := hY
    refine TL.cons rfl (V1.t (V1.move' (by (conv => lhs; whnf) <;> rfl)) ?_)
    refine TL.cons rfl (V1.t (V1.extract rfl (by rfl)) ?_)
    refine TL.cons rfl (V1.t (V1.extract rfl (by rfl)) ?_)
    refine TL.cons rfl (V1.t (V1.assign' (by (conv => lhs; whnf) <;> rfl)) ?_)
    refine TL.cons rfl (V1.t (V1.assign' (by (conv => lhs; whnf) <;> rfl)) ?_)
    refine TL.nil ?_
    refine T.seq ?_
    refine T.seq ?_
    refine T.region ?_
    refine TL.cons rfl (V1.t (V1.move' (by (conv => lhs; whnf) <;> rfl)) ?_)
    refine TL.cons rfl (V1.t (V1.neI (r := false) rfl rfl (by decide)) ?_)
    refine TL.cons rfl (V1.t (V1.move' (by (conv => lhs; whnf) <;> rfl)) ?_)
    refine TL.cons rfl (V1.t (V1.move' (by (conv => lhs; whnf) <;> rfl)) ?_)
    refine TL.cons rfl (V1.t (V1.eqNil ty_35 rfl rfl) ?_)
    refine TL.cons rfl (V1.t (V1.pick rfl (by (conv => lhs; whnf) <;> rfl)) ?_)
    refine TL.nil ?_
    refine T.cond_f rfl ?_
    refine T.skip ?_
    refine T.seq ?_
    refine T.live (l := [(0, _), (4, _), (5, _), (7, _)]) (.cons (by (conv => lhs; whnf) <;> rfl) (.cons (by (conv => lhs; whnf) <;> rfl) (.cons (by (conv => lhs; whnf) <;> rfl) (.cons (by (conv => lhs; whnf) <;> rfl) .nil)))) (fun e_ => ?_)
    refine T.region ?_
    refine TL.cons rfl (V1.t (V1.move' (by (conv => lhs; whnf) <;> rfl)) ?_)
    refine TL.cons rfl (V1.t (V1.loadN one_26 sz_26 rfl (RdN.whole (by repeat (first | exact Find.here | assumption | apply Find.there | apply Find.far))) (by rfl)) ?_)
    refine TL.cons rfl (T1.callV has_20 rfl rfl (Makes_d hkna hka [] (ct := [.int .i64 kv, .string (bstr nv), .slice av_ asv.length cv_]) hcv) (by repeat (first | exact Inc.nil | assumption | exact Inc.refl | exact Inc.here | apply Inc.app | apply Inc.cons (by repeat (first | exact Find.here | assumption | apply Find.there | apply Find.far)) | apply Inc.skip1 | apply Inc.skip)) (fun v_ hv => ?_))
    obtain rfl := hv
    refine TL.cons rfl (V1.t (V1.assign' (by (conv => lhs; whnf) <;> rfl)) ?_)
    refine TL.nil ?_
    refine T.seq ?_
    refine T.region ?_
    refine TL.cons rfl (V1.t (V1.assign' (by (conv => lhs; whnf) <;> rfl)) ?_)
    refine TL.nil ?_
    refine T.seq ?_
    refine T.seq ?_
    refine T.region ?_
    refine TL.cons rfl (V1.t (V1.move' (by (conv => lhs; whnf) <;> rfl)) ?_)
    refine TL.cons rfl (V1.t (V1.lenSl ty_23 rfl) ?_)
    refine TL.cons rfl (V1.t (V1.sub (c := (ts.length : Int) - 1) rfl rfl (by rw [wrap_i64 _ (by omega) (by omega)])) ?_)
    refine TL.cons rfl (V1.t (V1.assign' (by (conv => lhs; whnf) <;> rfl)) ?_)
    refine TL.nil ?_
    refine T.block ?_
    refine T.loopL (σ := Nat × Value) (l0 := [(0, _), (4, _), (5, _), (7, _), (9, _)]) (fun x => [(10, x.2), (11, .int .i64 ((x.1 : Nat) - 1 : Int))]) (fun x L => ∃ Ls xs, L = Ls ++ (Ya ++ (⟨b5, 0, [.int .i64 kv, .string (bstr nv), .slice av_ asv.length cv_], 3⟩ :: ⟨b4, 0, [.int .i64 ku, .string (bstr nu), .slice au_ asu.length cu_], 3⟩ :: G)) ∧ x.1 ≤ ts.length ∧ SlG (some 26) x.2 xs 3 Ls ∧ TmsR w0 [] (ts.drop x.1).reverse xs) (fun x => x.1) (ts.length, .slice none 0 0) (.cons rfl (.cons rfl .nil)) (.cons (by (conv => lhs; whnf) <;> rfl) (.cons (by (conv => lhs; whnf) <;> rfl) (.cons (by (conv => lhs; whnf) <;> rfl) (.cons (by (conv => lhs; whnf) <;> rfl) (.cons (by (conv => lhs; whnf) <;> rfl) .nil))))) (by repeat (first | exact Take.nil | apply Take.one (by repeat (first | exact Pick.here | apply Pick.there | apply Pick.far)) | apply Take.seg (by repeat (first | exact PickS.last | exact PickS.one | exact PickS.here | exact PickS.nil | apply PickS.there | apply PickS.far)) | exact Take.last (by repeat (first | exact PickS.last | exact PickS.one | exact PickS.here | exact PickS.nil | apply PickS.there | apply PickS.far)))) (⟨[], [], rfl, Nat.le_refl _, SlG.nil, by simpa using TmsR.nil⟩) ?_
    rintro ⟨n, s⟩ e_ L ⟨Ls, xs, rfl, hn, hsl, hxs⟩
    simp only at hn hsl hxs
    have hxl := hxs.len
    rw [List.length_reverse, List.length_drop] at hxl
    refine T.seq ?_
    refine T.seq ?_
    refine T.region ?_
    refine TL.cons rfl (V1.t (V1.move' (by (conv => lhs; whnf) <;> rfl)) ?_)
    refine TL.cons rfl (T1.geI_split rfl rfl (fun h11 => ?_) (fun h11 => ?_))
    ·
      obtain ⟨x, hx0⟩ : ∃ x, ts[n - 1]? = some x := ⟨_, List.getElem?_eq_getElem (by omega)⟩
      obtain ⟨y, hy0⟩ : ∃ y, ts[0]? = some y := ⟨_, List.getElem?_eq_getElem (by omega)⟩
      have hdr := drop_rev (i := n - 1) hx0
      rw [show n - 1 + 1 = n by omega] at hdr
      obtain ⟨bx, ox, cs_, rfl, hx, hrdx⟩ := hr.term ht hx0 P
      obtain ⟨kx, nx, asx⟩ := x
      obtain ⟨ax, cx, vsx, rfl, hrx, hlx, htx⟩ := hx.inv
      try simp only at *
      obtain ⟨b2_, o2_, cs_, he_, hy, hrdy⟩ := hr.term ht hy0 P
      cases he_
      obtain ⟨ky, ny, asy⟩ := y
      obtain ⟨ay, cy, vsy, rfl, hry, hly, hty⟩ := hy.inv
      try simp only at *
      have hmx := List.mem_of_getElem? hx0
      have hmy := List.mem_of_getElem? hy0
      refine TL.nil ?_
      refine T.cond_t rfl ?_
      refine T.skip ?_
      refine T.seq ?_
      refine T.block ?_
      refine T.seq ?_
      refine T.region ?_
      refine TL.cons rfl (V1.t (V1.move' (by (conv => lhs; whnf) <;> rfl)) ?_)
      refine TL.cons rfl (V1.t (V1.move' (by (conv => lhs; whnf) <;> rfl)) ?_)
      refine TL.cons rfl (V1.t (V1.move' (by (conv => lhs; whnf) <;> rfl)) ?_)
      refine TL.cons rfl (V1.t (V1.indexAddrS (i := ((n - 1 : Nat) : Int)) ty_23 sz_26 rfl (by first | rfl | (show Value.int .i64 _ = Value.int .i64 _; congr 1; omega)) (by omega) (by omega)) ?_)
      refine TL.cons rfl (V1.t (V1.loadN (vs := [.int .i64 kx, .string (bstr nx), .slice ax asx.length cx]) one_26 sz_26 rfl (hrdx _ rfl rfl _ Inc.nil) rfl) ?_)
      refine TL.cons rfl (T1.buildOne (cs := [.int .i64 kx, .string (bstr nx), .slice ax asx.length cx]) ty_23 sz_26 zr_26 (by decide) rfl (by rfl) (fun b53 => ?_))
      refine TL.cons rfl (T1.appendG ty_23 kd_23 sz_26 by_26 zr_26 rfl (by decide) (by decide) rfl rfl (.inr rfl) hsl (.sl (vs := [.int .i64 kx, .string (bstr nx), .slice ax asx.length cx]) (RdN.at0 (by repeat (first | exact Find.here | assumption | apply Find.there | apply Find.far))) (by rfl)) (ones rfl) (ts.length) (by show _ + 3 ≤ _; omega) (by omega) (by repeat (first | exact PickS.last | exact PickS.one | exact PickS.here | exact PickS.nil | apply PickS.there | apply PickS.far)) (fun s2 Ls2 hsl2 => ?_))
      refine TL.cons rfl (V1.t (V1.assign' (by (conv => lhs; whnf) <;> rfl)) ?_)
      refine TL.nil ?_
      refine T.seq ?_
      refine T.drawK (fun L_ => True) mixed trivial ?_
      refine TK.take 0 rfl (by decide +kernel) (by decide +kernel) (by decide +kernel) rfl (fun _ _ _ h => h) (fun L_ _ => V1.move' (by (conv => lhs; whnf) <;> rfl)) ?_
      refine TK.take 1 rfl (by decide +kernel) (by decide +kernel) (by decide +kernel) rfl (fun _ _ _ h => h) (fun L_ _ => V1.move' (by (conv => lhs; whnf) <;> rfl)) ?_
      refine TK.take 2 rfl (by decide +kernel) (by decide +kernel) (by decide +kernel) rfl (fun _ _ _ h => h) (fun L_ _ => V1.move' (by (conv => lhs; whnf) <;> rfl)) ?_
      refine TK.take 3 rfl (by decide +kernel) (by decide +kernel) (by decide +kernel) rfl (fun _ _ _ h => h) (fun L_ _ => V1.indexAddrS (i := ((n - 1 : Nat) : Int)) ty_23 sz_26 rfl (by first | rfl | (show Value.int .i64 _ = Value.int .i64 _; congr 1; omega)) (by omega) (by omega)) ?_
      refine TK.take 4 rfl (by decide +kernel) (by decide +kernel) (by decide +kernel) rfl (fun _ _ _ h => h) (fun L_ _ => V1.loadN (vs := [.int .i64 kx, .string (bstr nx), .slice ax asx.length cx]) one_26 sz_26 rfl (hrdx _ rfl rfl _ Inc.nil) rfl) ?_
      refine TK.one 5 (by decide +kernel) rfl rfl (T1.callV has_20 rfl rfl (Makes_k hkna hka [] (ct := [.int .i64 kx, .string (bstr nx), .slice ax asx.length cx]) hx) (by repeat (first | exact Inc.nil | assumption | exact Inc.refl | exact Inc.here | apply Inc.app | apply Inc.cons (by repeat (first | exact Find.here | assumption | apply Find.there | apply Find.far)) | apply Inc.skip1 | apply Inc.skip)) (fun v_ hv => ?_))
      obtain ⟨r, rfl, hr_⟩ := hv
      obtain rfl : r = true := hr_.2 (Ans.known hmx (hcts _ hmx))
      refine ⟨trivial, ?_⟩
      refine TK.take 6 rfl (by decide +kernel) (by decide +kernel) (by decide +kernel) rfl (fun _ _ _ h => h) (fun L_ _ => V1.not rfl rfl) ?_
      refine TK.take 7 rfl (by decide +kernel) (by decide +kernel) (by decide +kernel) rfl (fun _ _ _ h => h) (fun L_ _ => V1.move' (by (conv => lhs; whnf) <;> rfl)) ?_
      refine TK.take 8 rfl (by decide +kernel) (by decide +kernel) (by decide +kernel) rfl (fun _ _ _ h => h) (fun L_ _ => V1.move' (by (conv => lhs; whnf) <;> rfl)) ?_
      refine TK.take 9 rfl (by decide +kernel) (by decide +kernel) (by decide +kernel) rfl (fun _ _ _ h => h) (fun L_ _ => V1.move' (by (conv => lhs; whnf) <;> rfl)) ?_
      refine TK.take 10 rfl (by decide +kernel) (by decide +kernel) (by decide +kernel) rfl (fun _ _ _ h => h) (fun L_ _ => V1.move' (by (conv => lhs; whnf) <;> rfl)) ?_
      refine TK.take 11 rfl (by decide +kernel) (by decide +kernel) (by decide +kernel) rfl (fun _ _ _ h => h) (fun L_ _ => V1.indexAddrS (i := ((n - 1 : Nat) : Int)) ty_23 sz_26 rfl (by first | rfl | (show Value.int .i64 _ = Value.int .i64 _; congr 1; omega)) (by omega) (by omega)) ?_
      refine TK.take 12 rfl (by decide +kernel) (by decide +kernel) (by decide +kernel) rfl (fun _ _ _ h => h) (fun L_ _ => V1.loadN (vs := [.int .i64 kx, .string (bstr nx), .slice ax asx.length cx]) one_26 sz_26 rfl (hrdx _ rfl rfl _ Inc.nil) rfl) ?_
      refine TK.take 13 rfl (by decide +kernel) (by decide +kernel) (by decide +kernel) rfl (fun _ _ _ h => h) (fun L_ _ => V1.move' (by (conv => lhs; whnf) <;> rfl)) ?_
      refine TK.take 14 rfl (by decide +kernel) (by decide +kernel) (by decide +kernel) rfl (fun _ _ _ h => h) (fun L_ _ => V1.indexAddrS (i := 0) ty_23 sz_26 rfl (by first | rfl | (show Value.int .i64 _ = Value.int .i64 _; congr 1; omega)) (by omega) (by omega)) ?_
      refine TK.take 15 rfl (by decide +kernel) (by decide +kernel) (by decide +kernel) rfl (fun _ _ _ h => h) (fun L_ _ => V1.loadN (vs := [.int .i64 ky, .string (bstr ny), .slice ay asy.length cy]) one_26 sz_26 rfl (hrdy _ rfl rfl _ Inc.nil) rfl) ?_
      refine TK.one 16 (by decide +kernel) rfl rfl (T1.buildTwo (cs := [.int .i64 kx, .string (bstr nx), .slice ax asx.length cx]) (ds := [.int .i64 ky, .string (bstr ny), .slice ay asy.length cy]) ty_23 sz_26 zr_26 (by decide) rfl rfl (by rfl) (by rfl) (fun b71 => ?_))
      refine ⟨trivial, ?_⟩
      refine TK.one 17 (by decide +kernel) rfl rfl (T1.callC has_31 rfl rfl (Pairs_any w0 [(⟨⟨b71, some 26⟩, 0, [.int .i64 kx, .string (bstr nx), .slice ax asx.length cx] ++ [.int .i64 ky, .string (bstr ny), .slice ay asy.length cy], 2 * 3⟩ : Blk)] (ts := [(.mk kx nx asx), (.mk ky ny asy)]) (RowR.own (List.mem_cons_self ..) rfl) (TmsR.cons (hx.more Inc.nil) (TmsR.one (hy.more Inc.nil))) (by show 2 ≤ maxN; decide)) (by repeat (first | exact Inc.nil | assumption | exact Inc.refl | exact Inc.here | apply Inc.app | apply Inc.cons (by repeat (first | exact Find.here | assumption | apply Find.there | apply Find.far)) | apply Inc.skip1 | apply Inc.skip)) (fun v_ Yp hY => ?_))
      obtain ⟨cpp, rfl, hcpp0⟩ := hY
      have hcpp : TmR w0 (Yp ++ [(⟨⟨b71, some 26⟩, 0, [.int .i64 kx, .string (bstr nx), .slice ax asx.length cx] ++ [.int .i64 ky, .string (bstr ny), .slice ay asy.length cy], 2 * 3⟩ : Blk)]) (Tm.mk 2 [] [(Tm.mk kx nx asx), (Tm.mk ky ny asy)]) cpp := hcpp0
      refine ⟨trivial, ?_⟩
      refine TK.one 18 (by decide +kernel) rfl rfl (T1.callV has_20 rfl rfl (Makes_k hkna hka _ hcpp) (by repeat (first | exact Inc.nil | assumption | exact Inc.refl | exact Inc.here | apply Inc.app | apply Inc.cons (by repeat (first | exact Find.here | assumption | apply Find.there | apply Find.far)) | apply Inc.skip1 | apply Inc.skip)) (fun v_ hv => ?_))
      obtain ⟨r, rfl, hr_⟩ := hv
      by_cases hcpr : chk (Tm.mk 2 [] [(Tm.mk kx nx asx), (Tm.mk ky ny asy)]) = 0
      ·
        obtain rfl : r = true := hr_.2 (pair_made hmx hmy hcpr)
        refine ⟨trivial, ?_⟩
        refine TK.take 19 rfl (by decide +kernel) (by decide +kernel) (by decide +kernel) rfl (fun _ _ _ h => h) (fun L_ _ => V1.not rfl rfl) ?_
        refine TK.take 20 rfl (by decide +kernel) (by decide +kernel) (by decide +kernel) rfl (fun _ _ _ h => h) (fun L_ _ => V1.move' (by (conv => lhs; whnf) <;> rfl)) ?_
        refine TD.takeNo (i := 21) rfl (by decide +kernel) (by decide +kernel) (by decide +kernel) rfl (fun _ _ _ h => h) ?_
        refine TD.takeNo (i := 22) rfl (by decide +kernel) (by decide +kernel) (by decide +kernel) rfl (fun _ _ _ h => h) ?_
        refine TD.takeNo (i := 23) rfl (by decide +kernel) (by decide +kernel) (by decide +kernel) rfl (fun _ _ _ h => h) ?_
        refine TD.takeNo (i := 24) rfl (by decide +kernel) (by decide +kernel) (by decide +kernel) rfl (fun _ _ _ h => h) ?_
        refine TD.takeNo (i := 25) rfl (by decide +kernel) (by decide +kernel) (by decide +kernel) rfl (fun _ _ _ h => h) ?_
        refine TD.takeNo (i := 26) rfl (by decide +kernel) (by decide +kernel) (by decide +kernel) rfl (fun _ _ _ h => h) ?_
        refine TD.takeNo (i := 27) rfl (by decide +kernel) (by decide +kernel) (by decide +kernel) rfl (fun _ _ _ h => h) ?_
        refine TD.takeNo (i := 28) rfl (by decide +kernel) (by decide +kernel) (by decide +kernel) rfl (fun _ _ _ h => h) ?_
        refine TD.takeNo (i := 29) rfl (by decide +kernel) (by decide +kernel) (by decide +kernel) rfl (fun _ _ _ h => h) ?_
        refine TD.takeNo (i := 30) rfl (by decide +kernel) (by decide +kernel) (by decide +kernel) rfl (fun _ _ _ h => h) ?_
        refine TD.takeNo (i := 31) rfl (by decide +kernel) (by decide +kernel) (by decide +kernel) rfl (fun _ _ _ h => h) ?_
        refine TK.take 32 rfl (by decide +kernel) (by decide +kernel) (by decide +kernel) rfl (fun _ _ _ h => h) (fun L_ _ => V1.pick rfl (by (conv => lhs; whnf) <;> rfl)) ?_
        refine TK.take 33 rfl (by decide +kernel) (by decide +kernel) (by decide +kernel) rfl (fun _ _ _ h => h) (fun L_ _ => V1.pick rfl (by (conv => lhs; whnf) <;> rfl)) ?_
        refine TD.done (by decide +kernel) ?_
        refine T.cond_f rfl ?_
        refine T.skip ?_
        refine T.live (l := [(0, _), (4, _), (5, _), (7, _), (9, _), (10, _), (11, _)]) (.cons (by (conv => lhs; whnf) <;> rfl) (.cons (by (conv => lhs; whnf) <;> rfl) (.cons (by (conv => lhs; whnf) <;> rfl) (.cons (by (conv => lhs; whnf) <;> rfl) (.cons (by (conv => lhs; whnf) <;> rfl) (.cons (by (conv => lhs; whnf) <;> rfl) (.cons (by (conv => lhs; whnf) <;> rfl) .nil))))))) (fun e_ => ?_)
        refine T.region ?_
        refine TL.cons rfl (V1.t (V1.move' (by (conv => lhs; whnf) <;> rfl)) ?_)
        refine TL.cons rfl (V1.t (V1.sub (c := ((n - 1 : Nat) : Int) - 1) rfl rfl (by rw [wrap_i64 _ (by omega) (by omega)]; omega)) ?_)
        refine TL.cons rfl (V1.t (V1.assign' (by (conv => lhs; whnf) <;> rfl)) ?_)
        refine TL.nil ?_
        exact ⟨(n - 1, s2), Ls2 ++ (Ya ++ (⟨b5, 0, [.int .i64 kv, .string (bstr nv), .slice av_ asv.length cv_], 3⟩ :: ⟨b4, 0, [.int .i64 ku, .string (bstr nu), .slice au_ asu.length cu_], 3⟩ :: G)), _, (by simp only; omega), (.cons rfl (.cons rfl .nil)), (.cons rfl (.cons rfl (.cons rfl (.cons rfl (.cons rfl .nil))))), (by repeat (first | exact Take.nil | apply Take.one (by repeat (first | exact Pick.here | apply Pick.there | apply Pick.far)) | apply Take.seg (by repeat (first | exact PickS.last | exact PickS.one | exact PickS.here | exact PickS.nil | apply PickS.there | apply PickS.far)) | exact Take.last (by repeat (first | exact PickS.last | exact PickS.one | exact PickS.here | exact PickS.nil | apply PickS.there | apply PickS.far)))), ⟨Ls2, _, rfl, by simp only; omega, hsl2, by rw [hdr]; exact hxs.app (TmsR.one hx)⟩⟩
      ·
        obtain rfl : r = false := (by cases r; rfl; exact absurd (hr_.1 rfl).1 hcpr)
        refine ⟨trivial, ?_⟩
        refine TK.take 19 rfl (by decide +kernel) (by decide +kernel) (by decide +kernel) rfl (fun _ _ _ h => h) (fun L_ _ => V1.not rfl rfl) ?_
        refine TK.take 20 rfl (by decide +kernel) (by decide +kernel) (by decide +kernel) rfl (fun _ _ _ h => h) (fun L_ _ => V1.move' (by (conv => lhs; whnf) <;> rfl)) ?_
        refine TK.take 21 rfl (by decide +kernel) (by decide +kernel) (by decide +kernel) rfl (fun _ _ _ h => h) (fun L_ _ => V1.move' (by (conv => lhs; whnf) <;> rfl)) ?_
        refine TK.take 22 rfl (by decide +kernel) (by decide +kernel) (by decide +kernel) rfl (fun _ _ _ h => h) (fun L_ _ => V1.move' (by (conv => lhs; whnf) <;> rfl)) ?_
        refine TK.take 23 rfl (by decide +kernel) (by decide +kernel) (by decide +kernel) rfl (fun _ _ _ h => h) (fun L_ _ => V1.indexAddrS (i := ((n - 1 : Nat) : Int)) ty_23 sz_26 rfl (by first | rfl | (show Value.int .i64 _ = Value.int .i64 _; congr 1; omega)) (by omega) (by omega)) ?_
        refine TK.take 24 rfl (by decide +kernel) (by decide +kernel) (by decide +kernel) rfl (fun _ _ _ h => h) (fun L_ _ => V1.loadN (vs := [.int .i64 kx, .string (bstr nx), .slice ax asx.length cx]) one_26 sz_26 rfl (hrdx _ rfl rfl _ Inc.nil) rfl) ?_
        refine TK.take 25 rfl (by decide +kernel) (by decide +kernel) (by decide +kernel) rfl (fun _ _ _ h => h) (fun L_ _ => V1.move' (by (conv => lhs; whnf) <;> rfl)) ?_
        refine TK.take 26 rfl (by decide +kernel) (by decide +kernel) (by decide +kernel) rfl (fun _ _ _ h => h) (fun L_ _ => V1.indexAddrS (i := 0) ty_23 sz_26 rfl (by first | rfl | (show Value.int .i64 _ = Value.int .i64 _; congr 1; omega)) (by omega) (by omega)) ?_
        refine TK.take 27 rfl (by decide +kernel) (by decide +kernel) (by decide +kernel) rfl (fun _ _ _ h => h) (fun L_ _ => V1.loadN (vs := [.int .i64 ky, .string (bstr ny), .slice ay asy.length cy]) one_26 sz_26 rfl (hrdy _ rfl rfl _ Inc.nil) rfl) ?_
        refine TK.one 28 (by decide +kernel) rfl rfl (T1.buildTwo (cs := [.int .i64 kx, .string (bstr nx), .slice ax asx.length cx]) (ds := [.int .i64 ky, .string (bstr ny), .slice ay asy.length cy]) ty_23 sz_26 zr_26 (by decide) rfl rfl (by rfl) (by rfl) (fun b83 => ?_))
        refine ⟨trivial, ?_⟩
        refine TK.one 29 (by decide +kernel) rfl rfl (T1.callC has_31 rfl rfl (Pairs_any w0 [(⟨⟨b83, some 26⟩, 0, [.int .i64 kx, .string (bstr nx), .slice ax asx.length cx] ++ [.int .i64 ky, .string (bstr ny), .slice ay asy.length cy], 2 * 3⟩ : Blk)] (ts := [(.mk kx nx asx), (.mk ky ny asy)]) (RowR.own (List.mem_cons_self ..) rfl) (TmsR.cons (hx.more Inc.nil) (TmsR.one (hy.more Inc.nil))) (by show 2 ≤ maxN; decide)) (by repeat (first | exact Inc.nil | assumption | exact Inc.refl | exact Inc.here | apply Inc.app | apply Inc.cons (by repeat (first | exact Find.here | assumption | apply Find.there | apply Find.far)) | apply Inc.skip1 | apply Inc.skip)) (fun v_ Yq hY => ?_))
        obtain ⟨cpq, rfl, hcpq0⟩ := hY
        have hcpq : TmR w0 (Yq ++ [(⟨⟨b83, some 26⟩, 0, [.int .i64 kx, .string (bstr nx), .slice ax asx.length cx] ++ [.int .i64 ky, .string (bstr ny), .slice ay asy.length cy], 2 * 3⟩ : Blk)]) (Tm.mk 2 [] [(Tm.mk kx nx asx), (Tm.mk ky ny asy)]) cpq := hcpq0
        refine ⟨trivial, ?_⟩
        refine TK.one 30 (by decide +kernel) rfl rfl (T1.callV has_17 rfl rfl (Check_any w0 _ (Tm.mk 2 [] [(Tm.mk kx nx asx), (Tm.mk ky ny asy)]) _ hcpq) (by repeat (first | exact Inc.nil | assumption | exact Inc.refl | exact Inc.here | apply Inc.app | apply Inc.cons (by repeat (first | exact Find.here | assumption | apply Find.there | apply Find.far)) | apply Inc.skip1 | apply Inc.skip)) (fun v_ hv => ?_))
        obtain rfl := hv
        refine ⟨trivial, ?_⟩
        refine TK.take 31 rfl (by decide +kernel) (by decide +kernel) (by decide +kernel) rfl (fun _ _ _ h => h) (fun L_ _ => V1.eqI (r := false) rfl rfl (decide_eq_false hcpr)) ?_
        refine TK.take 32 rfl (by decide +kernel) (by decide +kernel) (by decide +kernel) rfl (fun _ _ _ h => h) (fun L_ _ => V1.pick rfl (by (conv => lhs; whnf) <;> rfl)) ?_
        refine TK.take 33 rfl (by decide +kernel) (by decide +kernel) (by decide +kernel) rfl (fun _ _ _ h => h) (fun L_ _ => V1.pick rfl (by (conv => lhs; whnf) <;> rfl)) ?_
        refine TD.done (by decide +kernel) ?_
        refine T.cond_f rfl ?_
        refine T.skip ?_
        refine T.live (l := [(0, _), (4, _), (5, _), (7, _), (9, _), (10, _), (11, _)]) (.cons (by (conv => lhs; whnf) <;> rfl) (.cons (by (conv => lhs; whnf) <;> rfl) (.cons (by (conv => lhs; whnf) <;> rfl) (.cons (by (conv => lhs; whnf) <;> rfl) (.cons (by (conv => lhs; whnf) <;> rfl) (.cons (by (conv => lhs; whnf) <;> rfl) (.cons (by (conv => lhs; whnf) <;> rfl) .nil))))))) (fun e_ => ?_)
        refine T.region ?_
        refine TL.cons rfl (V1.t (V1.move' (by (conv => lhs; whnf) <;> rfl)) ?_)
        refine TL.cons rfl (V1.t (V1.sub (c := ((n - 1 : Nat) : Int) - 1) rfl rfl (by rw [wrap_i64 _ (by omega) (by omega)]; omega)) ?_)
        refine TL.cons rfl (V1.t (V1.assign' (by (conv => lhs; whnf) <;> rfl)) ?_)
        refine TL.nil ?_
        exact ⟨(n - 1, s2), Ls2 ++ (Ya ++ (⟨b5, 0, [.int .i64 kv, .string (bstr nv), .slice av_ asv.length cv_], 3⟩ :: ⟨b4, 0, [.int .i64 ku, .string (bstr nu), .slice au_ asu.length cu_], 3⟩ :: G)), _, (by simp only; omega), (.cons rfl (.cons rfl .nil)), (.cons rfl (.cons rfl (.cons rfl (.cons rfl (.cons rfl .nil))))), (by repeat (first | exact Take.nil | apply Take.one (by repeat (first | exact Pick.here | apply Pick.there | apply Pick.far)) | apply Take.seg (by repeat (first | exact PickS.last | exact PickS.one | exact PickS.here | exact PickS.nil | apply PickS.there | apply PickS.far)) | exact Take.last (by repeat (first | exact PickS.last | exact PickS.one | exact PickS.here | exact PickS.nil | apply PickS.there | apply PickS.far)))), ⟨Ls2, _, rfl, by simp only; omega, hsl2, by rw [hdr]; exact hxs.app (TmsR.one hx)⟩⟩
    ·
      obtain rfl : n = 0 := by omega
      rw [List.drop_zero] at hxs
      obtain ⟨au, cu, rfl, hru⟩ := hsl.tm hxs
      refine TL.nil ?_
      refine T.cond_f rfl ?_
      refine T.exit ?_
      refine T.seq ?_
      refine T.region ?_
      refine TL.cons rfl (V1.t (V1.move' (by (conv => lhs; whnf) <;> rfl)) ?_)
      refine TL.cons rfl (T1.callC has_19 rfl rfl (New_kn w0 (Ls ++ []) rfl hru (hxs.more Inc.nil) (fun t ht => hcts t (List.mem_reverse.1 ht)) (by rw [nparts_rev]; omega)) (by repeat (first | exact Inc.nil | assumption | exact Inc.refl | exact Inc.here | apply Inc.app | apply Inc.cons (by repeat (first | exact Find.here | assumption | apply Find.there | apply Find.far)) | apply Inc.skip1 | apply Inc.skip)) (fun v_ Yb hY => ?_))
      obtain ⟨kbb, lb, rfl, hknb, hkb⟩ := hY
      refine TL.cons rfl (V1.t (V1.move' (by (conv => lhs; whnf) <;> rfl)) ?_)
      refine TL.cons rfl (V1.t (V1.extract rfl (by rfl)) ?_)
      refine TL.cons rfl (V1.t (V1.extract rfl (by rfl)) ?_)
      refine TL.cons rfl (V1.t (V1.assign' (by (conv => lhs; whnf) <;> rfl)) ?_)
      refine TL.cons rfl (V1.t (V1.assign' (by (conv => lhs; whnf) <;> rfl)) ?_)
      refine TL.nil ?_
      refine T.seq ?_
      refine T.seq ?_
      refine T.region ?_
      refine TL.cons rfl (V1.t (V1.move' (by (conv => lhs; whnf) <;> rfl)) ?_)
      refine TL.cons rfl (V1.t (V1.neI (r := false) rfl rfl (by decide)) ?_)
      refine TL.cons rfl (V1.t (V1.move' (by (conv => lhs; whnf) <;> rfl)) ?_)
      refine TL.cons rfl (V1.t (V1.move' (by (conv => lhs; whnf) <;> rfl)) ?_)
      refine TL.cons rfl (V1.t (V1.eqNil ty_35 rfl rfl) ?_)
      refine TL.cons rfl (V1.t (V1.pick rfl (by (conv => lhs; whnf) <;> rfl)) ?_)
      refine TL.cons rfl (V1.t (V1.move' (by (conv => lhs; whnf) <;> rfl)) ?_)
      refine TL.cons rfl (V1.t (V1.move' (by (conv => lhs; whnf) <;> rfl)) ?_)
      refine TL.cons rfl (V1.t (V1.loadN one_26 sz_26 rfl (RdN.whole (by repeat (first | exact Find.here | assumption | apply Find.there | apply Find.far))) (by rfl)) ?_)
      refine TL.cons rfl (T1.callV has_20 rfl rfl (Makes_d hknb hkb [] (ct := [.int .i64 kv, .string (bstr nv), .slice av_ asv.length cv_]) hcv) (by repeat (first | exact Inc.nil | assumption | exact Inc.refl | exact Inc.here | apply Inc.app | apply Inc.cons (by repeat (first | exact Find.here | assumption | apply Find.there | apply Find.far)) | apply Inc.skip1 | apply Inc.skip)) (fun v_ hv => ?_))
      obtain rfl := hv
      refine TL.cons rfl (V1.t (V1.move' (by (conv => lhs; whnf) <;> rfl)) ?_)
      refine TL.cons rfl (V1.t (V1.neB (r := false) ty_4 rfl rfl (by rw [ansB_eq (Ans.perm (us := ts) (fun x => List.mem_reverse) (Tm.mk kv nv asv))]; simp)) ?_)
      refine TL.cons rfl (V1.t (V1.pick rfl (by (conv => lhs; whnf) <;> rfl)) ?_)
      refine TL.nil ?_
      refine T.cond_f rfl ?_
      refine T.skip ?_
      refine T.seq ?_
      refine T.seq ?_
      refine T.live (l := [(4, _), (5, _), (7, _), (9, _)]) (.cons (by (conv => lhs; whnf) <;> rfl) (.cons (by (conv => lhs; whnf) <;> rfl) (.cons (by (conv => lhs; whnf) <;> rfl) (.cons (by (conv => lhs; whnf) <;> rfl) .nil)))) (fun e_ => ?_)
      refine T.region ?_
      refine TL.cons rfl (V1.t (V1.move' (by (conv => lhs; whnf) <;> rfl)) ?_)
      refine TL.cons rfl (V1.t (V1.loadN one_26 sz_26 rfl (RdN.whole (by repeat (first | exact Find.here | assumption | apply Find.there | apply Find.far))) (by rfl)) ?_)
      refine TL.cons rfl (T1.buildOne (cs := [.int .i64 ku, .string (bstr nu), .slice au_ asu.length cu_]) ty_23 sz_26 zr_26 (by decide) rfl (by rfl) (fun b109 => ?_))
      refine TL.cons rfl (T1.callM (X := Ya) has_26 rfl rfl (Learn_k hkna hka [⟨⟨b109, some 26⟩, 0, [.int .i64 ku, .string (bstr nu), .slice au_ asu.length cu_], 3⟩] (us := [(Tm.mk ku nu asu)]) rfl (RowR.own (List.mem_cons_self ..) rfl) (TmsR.one (hcu.more Inc.nil)) hcm (by omega)) (by repeat (first | exact Take.nil | apply Take.one (by repeat (first | exact Pick.here | apply Pick.there | apply Pick.far)) | apply Take.seg (by repeat (first | exact PickS.last | exact PickS.one | exact PickS.here | exact PickS.nil | apply PickS.there | apply PickS.far)) | exact Take.last (by repeat (first | exact PickS.last | exact PickS.one | exact PickS.here | exact PickS.nil | apply PickS.there | apply PickS.far)))) (by repeat (first | exact Inc.nil | assumption | exact Inc.refl | exact Inc.here | apply Inc.app | apply Inc.cons (by repeat (first | exact Find.here | assumption | apply Find.there | apply Find.far)) | apply Inc.skip1 | apply Inc.skip)) (fun v_ Y2 hY => ?_))
      obtain ⟨l2, rfl, hkn2, hk2⟩ := hY
      rcases Bool.eq_false_or_eq_true (ansB ts (Tm.mk kv nv asv)) with hw | hw <;> rw [hw]
      ·
        refine TL.cons rfl (V1.t (V1.neI (r := false) rfl rfl (by decide)) ?_)
        refine TL.cons rfl (V1.t (V1.move' (by (conv => lhs; whnf) <;> rfl)) ?_)
        refine TL.cons rfl (V1.t (V1.move' (by (conv => lhs; whnf) <;> rfl)) ?_)
        refine TL.cons rfl (V1.t (V1.move' (by (conv => lhs; whnf) <;> rfl)) ?_)
        refine TL.cons rfl (V1.t (V1.move' (by (conv => lhs; whnf) <;> rfl)) ?_)
        refine TL.cons rfl (V1.t (V1.loadN one_26 sz_26 rfl (RdN.whole (by repeat (first | exact Find.here | assumption | apply Find.there | apply Find.far))) (by rfl)) ?_)
        refine TL.cons rfl (T1.callV has_20 rfl rfl (Makes_k hkn2 hk2 [] (ct := [.int .i64 kv, .string (bstr nv), .slice av_ asv.length cv_]) hcv) (by repeat (first | exact Inc.nil | assumption | exact Inc.refl | exact Inc.here | apply Inc.app | apply Inc.cons (by repeat (first | exact Find.here | assumption | apply Find.there | apply Find.far)) | apply Inc.skip1 | apply Inc.skip)) (fun v_ hv => ?_))
        obtain ⟨r, rfl, hr_⟩ := hv
        obtain rfl : r = true := hr_.2 (Ans.mono (by simp +contextual) (ansB_iff.1 hw))
        refine TL.cons rfl (V1.t (V1.not rfl rfl) ?_)
        refine TL.cons rfl (V1.t (V1.pick rfl (by (conv => lhs; whnf) <;> rfl)) ?_)
        refine TL.cons rfl (V1.t (V1.pick rfl (by (conv => lhs; whnf) <;> rfl)) ?_)
        refine TL.cons rfl (V1.t (V1.move' (by (conv => lhs; whnf) <;> rfl)) ?_)
        refine TL.cons rfl (V1.t (V1.move' (by (conv => lhs; whnf) <;> rfl)) ?_)
        refine TL.cons rfl (V1.t (V1.loadN one_26 sz_26 rfl (RdN.whole (by repeat (first | exact Find.here | assumption | apply Find.there | apply Find.far))) (by rfl)) ?_)
        refine TL.cons rfl (T1.callV has_20 rfl rfl (Makes_k hkn2 hk2 [] (ct := [.int .i64 ku, .string (bstr nu), .slice au_ asu.length cu_]) hcu) (by repeat (first | exact Inc.nil | assumption | exact Inc.refl | exact Inc.here | apply Inc.app | apply Inc.cons (by repeat (first | exact Find.here | assumption | apply Find.there | apply Find.far)) | apply Inc.skip1 | apply Inc.skip)) (fun v_ hv => ?_))
        obtain ⟨r, rfl, hr_⟩ := hv
        obtain rfl : r = true := hr_.2 (Ans.known (by simp) hcu0)
        refine TL.cons rfl (V1.t (V1.not rfl rfl) ?_)
        refine TL.cons rfl (V1.t (V1.pick rfl (by (conv => lhs; whnf) <;> rfl)) ?_)
        refine TL.nil ?_
        refine T.cond_f rfl ?_
        refine T.skip ?_
        refine T.seq ?_
        refine T.seq ?_
        refine T.live (l := [(7, _)]) (.cons (by (conv => lhs; whnf) <;> rfl) .nil) (fun e_ => ?_)
        refine T.region ?_
        refine TL.cons rfl (V1.t (V1.move' (by (conv => lhs; whnf) <;> rfl)) ?_)
        refine TL.cons rfl (T1.callC has_25 rfl rfl (Terms_any w0 _ hkn2.r) (by repeat (first | exact Inc.nil | assumption | exact Inc.refl | exact Inc.here | apply Inc.app | apply Inc.cons (by repeat (first | exact Find.here | assumption | apply Find.there | apply Find.far)) | apply Inc.skip1 | apply Inc.skip)) (fun v_ Y5 hY => ?_))
        obtain ⟨a5, c5, vs5, rfl, hsl5, ht5⟩ := hY
        have hl2 := hkn2.len
        obtain ⟨a6, c6, h6, hr5⟩ := hsl5.tm ht5
        cases h6
        refine TL.cons rfl (V1.t (V1.lenSl ty_23 rfl) ?_)
        refine TL.cons rfl (V1.t (V1.move' (by (conv => lhs; whnf) <;> rfl)) ?_)
        refine TL.nil ?_
        refine T.block ?_
        refine T.loopL (σ := Nat) (l0 := [(7, _), (128, _), (129, _)]) (fun x => [(130, .int .i64 (x : Nat))]) (fun i L => L = Y5 ++ (Y2 ++ (⟨⟨b109, some 26⟩, 0, [.int .i64 ku, .string (bstr nu), .slice au_ asu.length cu_], 3⟩ :: G)) ∧ i ≤ l2.length) (fun i => l2.length - i) 0 (.cons rfl .nil) (.cons (by (conv => lhs; whnf) <;> rfl) (.cons (by (conv => lhs; whnf) <;> rfl) (.cons (by (conv => lhs; whnf) <;> rfl) .nil))) (by repeat (first | exact Take.nil | apply Take.one (by repeat (first | exact Pick.here | apply Pick.there | apply Pick.far)) | apply Take.seg (by repeat (first | exact PickS.last | exact PickS.one | exact PickS.here | exact PickS.nil | apply PickS.there | apply PickS.far)) | exact Take.last (by repeat (first | exact PickS.last | exact PickS.one | exact PickS.here | exact PickS.nil | apply PickS.there | apply PickS.far)))) (⟨rfl, Nat.zero_le _⟩) ?_
        rintro i e_ L ⟨rfl, hi⟩
        refine T.seq ?_
        refine T.region ?_
        refine TL.cons rfl (T1.ltI_split rfl rfl (fun h22 => ?_) (fun h22 => ?_))
        ·
          obtain ⟨x, hx0⟩ : ∃ x, l2[i]? = some x := ⟨_, List.getElem?_eq_getElem (by omega)⟩
          obtain ⟨bx, ox, cs_, rfl, hx, hrdx⟩ := hr5.term ht5 hx0 P
          obtain ⟨kx, nx, asx⟩ := x
          obtain ⟨ax, cx, vsx, rfl, hrx, hlx, htx⟩ := hx.inv
          try simp only at *
          refine TL.nil ?_
          refine T.seq ?_
          refine T.cond_t rfl ?_
          refine T.skip ?_
          refine T.seq ?_
          refine T.block ?_
          refine T.seq ?_
          refine T.region ?_
          refine TL.cons rfl (V1.t (V1.indexAddrS ty_23 sz_26 rfl rfl (by omega) (by omega)) ?_)
          refine TL.cons rfl (V1.t (V1.loadN (vs := [.int .i64 kx, .string (bstr nx), .slice ax asx.length cx]) one_26 sz_26 rfl (hrdx _ rfl rfl _ (by repeat (first | exact Inc.nil | assumption | exact Inc.refl | exact Inc.here | apply Inc.app | apply Inc.cons (by repeat (first | exact Find.here | assumption | apply Find.there | apply Find.far)) | apply Inc.skip1 | apply Inc.skip))) rfl) ?_)
          refine TL.cons rfl (T1.allocN 3 zr_26 rfl (fun b15 => ?_))
          refine TL.cons rfl (T1.storeN rfl rfl sz_26 (ones rfl) (by repeat (first | exact Sub.one | apply Sub.there | apply Sub.far)) (by rfl) (by rfl) ?_)
          refine TL.nil ?_
          refine T.seq ?_
          refine T.region ?_
          refine TL.cons rfl (V1.t (V1.move' (by (conv => lhs; whnf) <;> rfl)) ?_)
          refine TL.cons rfl (V1.t (V1.loadN one_26 sz_26 rfl (RdN.whole (by repeat (first | exact Find.here | assumption | apply Find.there | apply Find.far))) (by rfl)) ?_)
          refine TL.cons rfl (T1.callV has_20 rfl rfl (FnG.more (Makes_kn w0 _ hkn2 _ _ hx) Inc.refl) (by repeat (first | exact Inc.nil | assumption | exact Inc.refl | exact Inc.here | apply Inc.app | apply Inc.cons (by repeat (first | exact Find.here | assumption | apply Find.there | apply Find.far)) | apply Inc.skip1 | apply Inc.skip)) (fun v_ hv => ?_))
          obtain ⟨r, rfl, hr_⟩ := hv
          obtain rfl : r = true := hr_.2 ((hk2.ans _).2 (hk2.self hcm (List.mem_of_getElem? hx0)))
          refine TL.cons rfl (V1.t (V1.not rfl rfl) ?_)
          refine TL.nil ?_
          refine T.cond_f rfl ?_
          refine T.skip ?_
          refine T.region ?_
          refine TL.cons rfl (V1.t (V1.add (c := ((i + 1 : Nat) : Int)) rfl rfl (by rw [wrap_i64 _ (by omega) (by omega)]; omega)) ?_)
          refine TL.cons rfl (V1.t (V1.move' (by (conv => lhs; whnf) <;> rfl)) ?_)
          refine TL.nil ?_
          exact ⟨i + 1, Y5 ++ (Y2 ++ (⟨⟨b109, some 26⟩, 0, [.int .i64 ku, .string (bstr nu), .slice au_ asu.length cu_], 3⟩ :: G)), _, (by simp only; omega), (.cons rfl .nil), (.cons rfl (.cons rfl (.cons rfl .nil))), (by repeat (first | exact Take.nil | apply Take.one (by repeat (first | exact Pick.here | apply Pick.there | apply Pick.far)) | apply Take.seg (by repeat (first | exact PickS.last | exact PickS.one | exact PickS.here | exact PickS.nil | apply PickS.there | apply PickS.far)) | exact Take.last (by repeat (first | exact PickS.last | exact PickS.one | exact PickS.here | exact PickS.nil | apply PickS.there | apply PickS.far)))), ⟨rfl, by omega⟩⟩
        ·
          refine TL.nil ?_
          refine T.seq ?_
          refine T.cond_f rfl ?_
          refine T.exit ?_
          refine T.seq ?_
          refine T.region ?_
          refine TL.cons rfl (V1.t (V1.assign' (by (conv => lhs; whnf) <;> rfl)) ?_)
          refine TL.nil ?_
          refine T.ret ?_
          exact ⟨_, G, _, .cons (.tmp (by (conv => lhs; whnf) <;> rfl)) .nil, (by repeat (first | exact Take.nil | apply Take.one (by repeat (first | exact Pick.here | apply Pick.there | apply Pick.far)) | apply Take.seg (by repeat (first | exact PickS.last | exact PickS.one | exact PickS.here | exact PickS.nil | apply PickS.there | apply PickS.far)) | exact Take.last (by repeat (first | exact PickS.last | exact PickS.one | exact PickS.here | exact PickS.nil | apply PickS.there | apply PickS.far)))), rfl, rfl⟩
      ·
        refine TL.cons rfl (V1.t (V1.neI (r := false) rfl rfl (by decide)) ?_)
        refine TL.cons rfl (V1.t (V1.move' (by (conv => lhs; whnf) <;> rfl)) ?_)
        refine TL.cons rfl (V1.t (V1.move' (by (conv => lhs; whnf) <;> rfl)) ?_)
        refine TL.cons rfl (V1.t (V1.move' (by (conv => lhs; whnf) <;> rfl)) ?_)
        refine TL.no rfl ?_
        refine TL.no rfl ?_
        refine TL.no rfl ?_
        refine TL.no rfl ?_
        refine TL.cons rfl (V1.t (V1.pick rfl (by (conv => lhs; whnf) <;> rfl)) ?_)
        refine TL.cons rfl (V1.t (V1.pick rfl (by (conv => lhs; whnf) <;> rfl)) ?_)
        refine TL.cons rfl (V1.t (V1.move' (by (conv => lhs; whnf) <;> rfl)) ?_)
        refine TL.cons rfl (V1.t (V1.move' (by (conv => lhs; whnf) <;> rfl)) ?_)
        refine TL.cons rfl (V1.t (V1.loadN one_26 sz_26 rfl (RdN.whole (by repeat (first | exact Find.here | assumption | apply Find.there | apply Find.far))) (by rfl)) ?_)
        refine TL.cons rfl (T1.callV has_20 rfl rfl (Makes_k hkn2 hk2 [] (ct := [.int .i64 ku, .string (bstr nu), .slice au_ asu.length cu_]) hcu) (by repeat (first | exact Inc.nil | assumption | exact Inc.refl | exact Inc.here | apply Inc.app | apply Inc.cons (by repeat (first | exact Find.here | assumption | apply Find.there | apply Find.far)) | apply Inc.skip1 | apply Inc.skip)) (fun v_ hv => ?_))
        obtain ⟨r, rfl, hr_⟩ := hv
        obtain rfl : r = true := hr_.2 (Ans.known (by simp) hcu0)
        refine TL.cons rfl (V1.t (V1.not rfl rfl) ?_)
        refine TL.cons rfl (V1.t (V1.pick rfl (by (conv => lhs; whnf) <;> rfl)) ?_)
        refine TL.nil ?_
        refine T.cond_f rfl ?_
        refine T.skip ?_
        refine T.seq ?_
        refine T.seq ?_
        refine T.live (l := [(7, _)]) (.cons (by (conv => lhs; whnf) <;> rfl) .nil) (fun e_ => ?_)
        refine T.region ?_
        refine TL.cons rfl (V1.t (V1.move' (by (conv => lhs; whnf) <;> rfl)) ?_)
        refine TL.cons rfl (T1.callC has_25 rfl rfl (Terms_any w0 _ hkn2.r) (by repeat (first | exact Inc.nil | assumption | exact Inc.refl | exact Inc.here | apply Inc.app | apply Inc.cons (by repeat (first | exact Find.here | assumption | apply Find.there | apply Find.far)) | apply Inc.skip1 | apply Inc.skip)) (fun v_ Y5 hY => ?_))
        obtain ⟨a5, c5, vs5, rfl, hsl5, ht5⟩ := hY
        have hl2 := hkn2.len
        obtain ⟨a6, c6, h6, hr5⟩ := hsl5.tm ht5
        cases h6
        refine TL.cons rfl (V1.t (V1.lenSl ty_23 rfl) ?_)
        refine TL.cons rfl (V1.t (V1.move' (by (conv => lhs; whnf) <;> rfl)) ?_)
        refine TL.nil ?_
        refine T.block ?_
        refine T.loopL (σ := Nat) (l0 := [(7, _), (128, _), (129, _)]) (fun x => [(130, .int .i64 (x : Nat))]) (fun i L => L = Y5 ++ (Y2 ++ (⟨⟨b109, some 26⟩, 0, [.int .i64 ku, .string (bstr nu), .slice au_ asu.length cu_], 3⟩ :: G)) ∧ i ≤ l2.length) (fun i => l2.length - i) 0 (.cons rfl .nil) (.cons (by (conv => lhs; whnf) <;> rfl) (.cons (by (conv => lhs; whnf) <;> rfl) (.cons (by (conv => lhs; whnf) <;> rfl) .nil))) (by repeat (first | exact Take.nil | apply Take.one (by repeat (first | exact Pick.here | apply Pick.there | apply Pick.far)) | apply Take.seg (by repeat (first | exact PickS.last | exact PickS.one | exact PickS.here | exact PickS.nil | apply PickS.there | apply PickS.far)) | exact Take.last (by repeat (first | exact PickS.last | exact PickS.one | exact PickS.here | exact PickS.nil | apply PickS.there | apply PickS.far)))) (⟨rfl, Nat.zero_le _⟩) ?_
        rintro i e_ L ⟨rfl, hi⟩
        refine T.seq ?_
        refine T.region ?_
        refine TL.cons rfl (T1.ltI_split rfl rfl (fun h22 => ?_) (fun h22 => ?_))
        ·
          obtain ⟨x, hx0⟩ : ∃ x, l2[i]? = some x := ⟨_, List.getElem?_eq_getElem (by omega)⟩
          obtain ⟨bx, ox, cs_, rfl, hx, hrdx⟩ := hr5.term ht5 hx0 P
          obtain ⟨kx, nx, asx⟩ := x
          obtain ⟨ax, cx, vsx, rfl, hrx, hlx, htx⟩ := hx.inv
          try simp only at *
          refine TL.nil ?_
          refine T.seq ?_
          refine T.cond_t rfl ?_
          refine T.skip ?_
          refine T.seq ?_
          refine T.block ?_
          refine T.seq ?_
          refine T.region ?_
          refine TL.cons rfl (V1.t (V1.indexAddrS ty_23 sz_26 rfl rfl (by omega) (by omega)) ?_)
          refine TL.cons rfl (V1.t (V1.loadN (vs := [.int .i64 kx, .string (bstr nx), .slice ax asx.length cx]) one_26 sz_26 rfl (hrdx _ rfl rfl _ (by repeat (first | exact Inc.nil | assumption | exact Inc.refl | exact Inc.here | apply Inc.app | apply Inc.cons (by repeat (first | exact Find.here | assumption | apply Find.there | apply Find.far)) | apply Inc.skip1 | apply Inc.skip))) rfl) ?_)
          refine TL.cons rfl (T1.allocN 3 zr_26 rfl (fun b15 => ?_))
          refine TL.cons rfl (T1.storeN rfl rfl sz_26 (ones rfl) (by repeat (first | exact Sub.one | apply Sub.there | apply Sub.far)) (by rfl) (by rfl) ?_)
          refine TL.nil ?_
          refine T.seq ?_
          refine T.region ?_
          refine TL.cons rfl (V1.t (V1.move' (by (conv => lhs; whnf) <;> rfl)) ?_)
          refine TL.cons rfl (V1.t (V1.loadN one_26 sz_26 rfl (RdN.whole (by repeat (first | exact Find.here | assumption | apply Find.there | apply Find.far))) (by rfl)) ?_)
          refine TL.cons rfl (T1.callV has_20 rfl rfl (FnG.more (Makes_kn w0 _ hkn2 _ _ hx) Inc.refl) (by repeat (first | exact Inc.nil | assumption | exact Inc.refl | exact Inc.here | apply Inc.app | apply Inc.cons (by repeat (first | exact Find.here | assumption | apply Find.there | apply Find.far)) | apply Inc.skip1 | apply Inc.skip)) (fun v_ hv => ?_))
          obtain ⟨r, rfl, hr_⟩ := hv
          obtain rfl : r = true := hr_.2 ((hk2.ans _).2 (hk2.self hcm (List.mem_of_getElem? hx0)))
          refine TL.cons rfl (V1.t (V1.not rfl rfl) ?_)
          refine TL.nil ?_
          refine T.cond_f rfl ?_
          refine T.skip ?_
          refine T.region ?_
          refine TL.cons rfl (V1.t (V1.add (c := ((i + 1 : Nat) : Int)) rfl rfl (by rw [wrap_i64 _ (by omega) (by omega)]; omega)) ?_)
          refine TL.cons rfl (V1.t (V1.move' (by (conv => lhs; whnf) <;> rfl)) ?_)
          refine TL.nil ?_
          exact ⟨i + 1, Y5 ++ (Y2 ++ (⟨⟨b109, some 26⟩, 0, [.int .i64 ku, .string (bstr nu), .slice au_ asu.length cu_], 3⟩ :: G)), _, (by simp only; omega), (.cons rfl .nil), (.cons rfl (.cons rfl (.cons rfl .nil))), (by repeat (first | exact Take.nil | apply Take.one (by repeat (first | exact Pick.here | apply Pick.there | apply Pick.far)) | apply Take.seg (by repeat (first | exact PickS.last | exact PickS.one | exact PickS.here | exact PickS.nil | apply PickS.there | apply PickS.far)) | exact Take.last (by repeat (first | exact PickS.last | exact PickS.one | exact PickS.here | exact PickS.nil | apply PickS.there | apply PickS.far)))), ⟨rfl, by omega⟩⟩
        ·
          refine TL.nil ?_
          refine T.seq ?_
          refine T.cond_f rfl ?_
          refine T.exit ?_
          refine T.seq ?_
          refine T.region ?_
          refine TL.cons rfl (V1.t (V1.assign' (by (conv => lhs; whnf) <;> rfl)) ?_)
          refine TL.nil ?_
          refine T.ret ?_
          exact ⟨_, G, _, .cons (.tmp (by (conv => lhs; whnf) <;> rfl)) .nil, (by repeat (first | exact Take.nil | apply Take.one (by repeat (first | exact Pick.here | apply Pick.there | apply Pick.far)) | apply Take.seg (by repeat (first | exact PickS.last | exact PickS.one | exact PickS.here | exact PickS.nil | apply PickS.there | apply PickS.far)) | exact Take.last (by repeat (first | exact PickS.last | exact PickS.one | exact PickS.here | exact PickS.nil | apply PickS.there | apply PickS.far)))), rfl, rfl⟩

end Go.Proofs.YtlpkcbkflfbclaaDoor.S
