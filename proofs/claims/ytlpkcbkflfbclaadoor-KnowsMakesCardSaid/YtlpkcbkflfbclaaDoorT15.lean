/- Are terms right, and few? -/
import Derived.Test.YtlpkcbkflfbclaaDoorT13
namespace Go.Proofs.YtlpkcbkflfbclaaDoor.S
open Go.RowKit

theorem SlG.none0 {E : TypeId} (b : Nat) : SlG (some E) (.slice (some ⟨b, 0, none⟩) 0 0) [] 3 [⟨⟨b, some E⟩, 0, [], 0⟩] := .inr ⟨b, 0, 0, 0, 0, rfl, rfl, Nat.le_refl _, Nat.le_refl _, rfl⟩
theorem nparts_le {ts : List Tm} (h : ∀ t ∈ ts, chk t = 0) : nparts ts ≤ 1000 * ts.length := by
  induction ts with
  | nil => simp [nparts_nil]
  | cons a ts ih =>
    have h1 := npart_le a
    have h2 := (chk_iff.1 (h a (by simp))).1
    have h3 := ih fun t ht => h t (by simp [ht])
    rw [nparts_cons, List.length_cons]; omega
theorem nparts_take {ts : List Tm} {i : Nat} {x : Tm} (hx : ts[i]? = some x) : nparts (ts.take (i + 1)) = nparts (ts.take i) + npart x := by
  rw [List.take_add_one, hx, nparts_app]; simp [nparts_cons, nparts_nil]
theorem take_all {p : Tm → Prop} {ts : List Tm} {i : Nat} {x : Tm} (hx : ts[i]? = some x) (h : ∀ y ∈ ts.take i, p y) (h2 : p x) : ∀ y ∈ ts.take (i + 1), p y := by
  intro y hy
  rw [List.take_add_one, hx] at hy
  rcases List.mem_append.1 hy with hy | hy
  · exact h y hy
  · simp at hy; subst hy; exact h2

set_option maxRecDepth 100000 in
set_option maxHeartbeats 4000000 in
theorem few_us (w0 : World) (Ps : List Blk) {ts us : List Tm} {a : Option Addr} {c : Nat} {vs : List Value} (hr : RowR w0 Ps 3 (.slice a ts.length c) ts.length vs) (ht : TmsR w0 Ps ts vs) {t : Tm} {ct : List Value} (hct : TmR w0 Ps t ct) (hb : ts.length * 48 ≤ 140737488355328) (hus : us = ts ++ [t]) : FnV P 27 [.slice a ts.length c, .agg ct.toArray] w0 Ps (fun v => ∃ r, v = .bool r ∧ (r = true ↔ (∀ x ∈ us, chk x = 0) ∧ nparts us ≤ 60)) := by
  obtain ⟨kt, nt, ast⟩ := t
  obtain ⟨at_, ct_, vst, rfl, hrt, hlt, htt⟩ := hct.inv
  have hlus : us.length = ts.length + 1 := by rw [hus]; simp
  refine FnV.of 30 [.tmp 4] Go.Proofs.Tryd.func27 rfl rfl rfl rfl (fun G hG => ?_)
  refine T.seq ?_
  refine T.region ?_
  refine TL.cons rfl (T1.boxN 3 rfl rfl (fun b3 => ?_))
  refine TL.cons rfl (V1.t (V1.assign' (by (conv => lhs; whnf) <;> rfl)) ?_)
  refine TL.nil ?_
  refine T.seq ?_
  refine T.region ?_
  refine TL.cons rfl (V1.t (V1.assign' (by (conv => lhs; whnf) <;> rfl)) ?_)
  refine TL.nil ?_
  refine T.seq ?_
  refine T.cut (σ := Option Addr × Nat × List Value × List Blk) (l0 := []) (fun x => [(13, .slice x.1 us.length x.2.1), (14, .int .i64 (us.length : Nat)), (15, .int .i64 0), (5, .int .i64 0)]) (fun x L => L = x.2.2.2 ++ G ∧ RowR w0 (x.2.2.2 ++ Ps) 3 (.slice x.1 us.length x.2.1) us.length x.2.2.1 ∧ TmsR w0 Ps us x.2.2.1) .nil ?_ ?_
  ·
    refine T.drawK (fun L_ => Find L_ ⟨b3, 0, [.int .i64 kt, .string (bstr nt), .slice at_ ast.length ct_], 3⟩ ∧ Inc Ps L_) mixed ⟨(by repeat (first | exact Find.here | assumption | apply Find.there | apply Find.far)), (by repeat (first | exact Inc.nil | assumption | exact Inc.refl | exact Inc.here | apply Inc.app | apply Inc.cons (by repeat (first | exact Find.here | assumption | apply Find.there | apply Find.far)) | apply Inc.skip1 | apply Inc.skip))⟩ ?_
    refine TK.take 1 rfl (by decide +kernel) (by decide +kernel) (by decide +kernel) rfl (fun _ _ _ h => h) (fun L_ ⟨k1_, k2_⟩ => V1.move' (by (conv => lhs; whnf) <;> rfl)) ?_
    refine TK.take 3 rfl (by decide +kernel) (by decide +kernel) (by decide +kernel) rfl (fun _ _ _ h => h) (fun L_ ⟨k1_, k2_⟩ => V1.loadN one_26 sz_26 rfl (RdN.whole (by repeat (first | exact Find.here | assumption | apply Find.there | apply Find.far))) (by rfl)) ?_
    refine TK.take 7 rfl (by decide +kernel) (by decide +kernel) (by decide +kernel) rfl (fun _ _ _ h => h) (fun L_ ⟨k1_, k2_⟩ => V1.move' (by (conv => lhs; whnf) <;> rfl)) ?_
    refine TK.two 0 4 (by decide +kernel) rfl rfl rfl rfl (T1.buildNone ty_23 sz_26 zr_26 (fun b8 => ?_)) (T1.buildOne (cs := [.int .i64 kt, .string (bstr nt), .slice at_ ast.length ct_]) ty_23 sz_26 zr_26 (by decide) rfl (by rfl) (fun b12 => ?_))
    ·
      refine ⟨⟨(by repeat (first | exact Find.here | assumption | apply Find.there | apply Find.far)), (by repeat (first | exact Inc.nil | assumption | exact Inc.refl | exact Inc.here | apply Inc.app | apply Inc.cons (by repeat (first | exact Find.here | assumption | apply Find.there | apply Find.far)) | apply Inc.skip1 | apply Inc.skip))⟩, ?_⟩
      refine TK.two 2 4 (by decide +kernel) rfl rfl rfl rfl (T1.appendG ty_23 kd_23 sz_26 by_26 zr_26 rfl (by decide) (by decide) rfl rfl (.inr rfl) (SlG.none0 b8) (hr.src _ rfl rfl _ (by repeat (first | exact Inc.nil | assumption | exact Inc.refl | exact Inc.here | apply Inc.app | apply Inc.cons (by repeat (first | exact Find.here | assumption | apply Find.there | apply Find.far)) | apply Inc.skip1 | apply Inc.skip))) ht.ones (ts.length) (by rw [ht.len]; simp) (by omega) (by repeat (first | exact PickS.last | exact PickS.one | exact PickS.here | exact PickS.nil | apply PickS.there | apply PickS.far)) (fun s1 Ls1 hsl1 => ?_)) (T1.buildOne (cs := [.int .i64 kt, .string (bstr nt), .slice at_ ast.length ct_]) ty_23 sz_26 zr_26 (by decide) rfl (by rfl) (fun b12 => ?_))
      ·
        rw [List.nil_append] at hsl1
        refine ⟨⟨(by repeat (first | exact Find.here | assumption | apply Find.there | apply Find.far)), (by repeat (first | exact Inc.nil | assumption | exact Inc.refl | exact Inc.here | apply Inc.app | apply Inc.cons (by repeat (first | exact Find.here | assumption | apply Find.there | apply Find.far)) | apply Inc.skip1 | apply Inc.skip))⟩, ?_⟩
        refine TK.one 4 (by decide +kernel) rfl rfl (T1.buildOne (cs := [.int .i64 kt, .string (bstr nt), .slice at_ ast.length ct_]) ty_23 sz_26 zr_26 (by decide) rfl (by rfl) (fun b12 => ?_))
        refine ⟨⟨(by repeat (first | exact Find.here | assumption | apply Find.there | apply Find.far)), (by repeat (first | exact Inc.nil | assumption | exact Inc.refl | exact Inc.here | apply Inc.app | apply Inc.cons (by repeat (first | exact Find.here | assumption | apply Find.there | apply Find.far)) | apply Inc.skip1 | apply Inc.skip))⟩, ?_⟩
        refine TK.one 5 (by decide +kernel) rfl rfl (T1.appendG ty_23 kd_23 sz_26 by_26 zr_26 rfl (by decide) (by decide) rfl rfl (.inr rfl) hsl1 (.sl (vs := [.int .i64 kt, .string (bstr nt), .slice at_ ast.length ct_]) (RdN.at0 (by repeat (first | exact Find.here | assumption | apply Find.there | apply Find.far))) (by rfl)) (ones rfl) (ts.length + 1) (by rw [ht.len]; show _ + 3 ≤ _; omega) (by omega) (by repeat (first | exact PickS.last | exact PickS.one | exact PickS.here | exact PickS.nil | apply PickS.there | apply PickS.far)) (fun s2 Ls2 hsl2 => ?_))
        have htu : TmsR w0 Ps us (vs ++ [.int .i64 kt, .string (bstr nt), .slice at_ ast.length ct_]) := by rw [hus]; exact ht.app (TmsR.one hct)
        obtain ⟨au, cu, rfl, hru⟩ := hsl2.tm htu
        refine ⟨⟨(by repeat (first | exact Find.here | assumption | apply Find.there | apply Find.far)), (by repeat (first | exact Inc.nil | assumption | exact Inc.refl | exact Inc.here | apply Inc.app | apply Inc.cons (by repeat (first | exact Find.here | assumption | apply Find.there | apply Find.far)) | apply Inc.skip1 | apply Inc.skip))⟩, ?_⟩
        refine TK.take 6 rfl (by decide +kernel) (by decide +kernel) (by decide +kernel) rfl (fun _ _ _ h => h) (fun L_ ⟨k1_, k2_⟩ => V1.lenSl ty_23 rfl) ?_
        refine TD.done (by decide +kernel) ?_
        exact ⟨(au, cu, _, Ls2), _, _, trivial, (.cons rfl (.cons rfl (.cons rfl (.cons rfl .nil)))), .nil, (by repeat (first | exact Take.nil | apply Take.one (by repeat (first | exact Pick.here | apply Pick.there | apply Pick.far)) | apply Take.seg (by repeat (first | exact PickS.last | exact PickS.one | exact PickS.here | exact PickS.nil | apply PickS.there | apply PickS.far)) | exact Take.last (by repeat (first | exact PickS.last | exact PickS.one | exact PickS.here | exact PickS.nil | apply PickS.there | apply PickS.far)))), ⟨rfl, hru, htu⟩⟩
      ·
        refine ⟨⟨(by repeat (first | exact Find.here | assumption | apply Find.there | apply Find.far)), (by repeat (first | exact Inc.nil | assumption | exact Inc.refl | exact Inc.here | apply Inc.app | apply Inc.cons (by repeat (first | exact Find.here | assumption | apply Find.there | apply Find.far)) | apply Inc.skip1 | apply Inc.skip))⟩, ?_⟩
        refine TK.one 2 (by decide +kernel) rfl rfl (T1.appendG ty_23 kd_23 sz_26 by_26 zr_26 rfl (by decide) (by decide) rfl rfl (.inr rfl) (SlG.none0 b8) (hr.src _ rfl rfl _ (by repeat (first | exact Inc.nil | assumption | exact Inc.refl | exact Inc.here | apply Inc.app | apply Inc.cons (by repeat (first | exact Find.here | assumption | apply Find.there | apply Find.far)) | apply Inc.skip1 | apply Inc.skip))) ht.ones (ts.length) (by rw [ht.len]; simp) (by omega) (by repeat (first | exact PickS.last | exact PickS.one | exact PickS.here | exact PickS.nil | apply PickS.there | apply PickS.far)) (fun s1 Ls1 hsl1 => ?_))
        rw [List.nil_append] at hsl1
        refine ⟨⟨(by repeat (first | exact Find.here | assumption | apply Find.there | apply Find.far)), (by repeat (first | exact Inc.nil | assumption | exact Inc.refl | exact Inc.here | apply Inc.app | apply Inc.cons (by repeat (first | exact Find.here | assumption | apply Find.there | apply Find.far)) | apply Inc.skip1 | apply Inc.skip))⟩, ?_⟩
        refine TK.one 5 (by decide +kernel) rfl rfl (T1.appendG ty_23 kd_23 sz_26 by_26 zr_26 rfl (by decide) (by decide) rfl rfl (.inr rfl) hsl1 (.sl (vs := [.int .i64 kt, .string (bstr nt), .slice at_ ast.length ct_]) (RdN.at0 (by repeat (first | exact Find.here | assumption | apply Find.there | apply Find.far))) (by rfl)) (ones rfl) (ts.length + 1) (by rw [ht.len]; show _ + 3 ≤ _; omega) (by omega) (by repeat (first | exact PickS.last | exact PickS.one | exact PickS.here | exact PickS.nil | apply PickS.there | apply PickS.far)) (fun s2 Ls2 hsl2 => ?_))
        have htu : TmsR w0 Ps us (vs ++ [.int .i64 kt, .string (bstr nt), .slice at_ ast.length ct_]) := by rw [hus]; exact ht.app (TmsR.one hct)
        obtain ⟨au, cu, rfl, hru⟩ := hsl2.tm htu
        refine ⟨⟨(by repeat (first | exact Find.here | assumption | apply Find.there | apply Find.far)), (by repeat (first | exact Inc.nil | assumption | exact Inc.refl | exact Inc.here | apply Inc.app | apply Inc.cons (by repeat (first | exact Find.here | assumption | apply Find.there | apply Find.far)) | apply Inc.skip1 | apply Inc.skip))⟩, ?_⟩
        refine TK.take 6 rfl (by decide +kernel) (by decide +kernel) (by decide +kernel) rfl (fun _ _ _ h => h) (fun L_ ⟨k1_, k2_⟩ => V1.lenSl ty_23 rfl) ?_
        refine TD.done (by decide +kernel) ?_
        exact ⟨(au, cu, _, Ls2), _, _, trivial, (.cons rfl (.cons rfl (.cons rfl (.cons rfl .nil)))), .nil, (by repeat (first | exact Take.nil | apply Take.one (by repeat (first | exact Pick.here | apply Pick.there | apply Pick.far)) | apply Take.seg (by repeat (first | exact PickS.last | exact PickS.one | exact PickS.here | exact PickS.nil | apply PickS.there | apply PickS.far)) | exact Take.last (by repeat (first | exact PickS.last | exact PickS.one | exact PickS.here | exact PickS.nil | apply PickS.there | apply PickS.far)))), ⟨rfl, hru, htu⟩⟩
    ·
      refine ⟨⟨(by repeat (first | exact Find.here | assumption | apply Find.there | apply Find.far)), (by repeat (first | exact Inc.nil | assumption | exact Inc.refl | exact Inc.here | apply Inc.app | apply Inc.cons (by repeat (first | exact Find.here | assumption | apply Find.there | apply Find.far)) | apply Inc.skip1 | apply Inc.skip))⟩, ?_⟩
      refine TK.one 0 (by decide +kernel) rfl rfl (T1.buildNone ty_23 sz_26 zr_26 (fun b8 => ?_))
      refine ⟨⟨(by repeat (first | exact Find.here | assumption | apply Find.there | apply Find.far)), (by repeat (first | exact Inc.nil | assumption | exact Inc.refl | exact Inc.here | apply Inc.app | apply Inc.cons (by repeat (first | exact Find.here | assumption | apply Find.there | apply Find.far)) | apply Inc.skip1 | apply Inc.skip))⟩, ?_⟩
      refine TK.one 2 (by decide +kernel) rfl rfl (T1.appendG ty_23 kd_23 sz_26 by_26 zr_26 rfl (by decide) (by decide) rfl rfl (.inr rfl) (SlG.none0 b8) (hr.src _ rfl rfl _ (by repeat (first | exact Inc.nil | assumption | exact Inc.refl | exact Inc.here | apply Inc.app | apply Inc.cons (by repeat (first | exact Find.here | assumption | apply Find.there | apply Find.far)) | apply Inc.skip1 | apply Inc.skip))) ht.ones (ts.length) (by rw [ht.len]; simp) (by omega) (by repeat (first | exact PickS.last | exact PickS.one | exact PickS.here | exact PickS.nil | apply PickS.there | apply PickS.far)) (fun s1 Ls1 hsl1 => ?_))
      rw [List.nil_append] at hsl1
      refine ⟨⟨(by repeat (first | exact Find.here | assumption | apply Find.there | apply Find.far)), (by repeat (first | exact Inc.nil | assumption | exact Inc.refl | exact Inc.here | apply Inc.app | apply Inc.cons (by repeat (first | exact Find.here | assumption | apply Find.there | apply Find.far)) | apply Inc.skip1 | apply Inc.skip))⟩, ?_⟩
      refine TK.one 5 (by decide +kernel) rfl rfl (T1.appendG ty_23 kd_23 sz_26 by_26 zr_26 rfl (by decide) (by decide) rfl rfl (.inr rfl) hsl1 (.sl (vs := [.int .i64 kt, .string (bstr nt), .slice at_ ast.length ct_]) (RdN.at0 (by repeat (first | exact Find.here | assumption | apply Find.there | apply Find.far))) (by rfl)) (ones rfl) (ts.length + 1) (by rw [ht.len]; show _ + 3 ≤ _; omega) (by omega) (by repeat (first | exact PickS.last | exact PickS.one | exact PickS.here | exact PickS.nil | apply PickS.there | apply PickS.far)) (fun s2 Ls2 hsl2 => ?_))
      have htu : TmsR w0 Ps us (vs ++ [.int .i64 kt, .string (bstr nt), .slice at_ ast.length ct_]) := by rw [hus]; exact ht.app (TmsR.one hct)
      obtain ⟨au, cu, rfl, hru⟩ := hsl2.tm htu
      refine ⟨⟨(by repeat (first | exact Find.here | assumption | apply Find.there | apply Find.far)), (by repeat (first | exact Inc.nil | assumption | exact Inc.refl | exact Inc.here | apply Inc.app | apply Inc.cons (by repeat (first | exact Find.here | assumption | apply Find.there | apply Find.far)) | apply Inc.skip1 | apply Inc.skip))⟩, ?_⟩
      refine TK.take 6 rfl (by decide +kernel) (by decide +kernel) (by decide +kernel) rfl (fun _ _ _ h => h) (fun L_ ⟨k1_, k2_⟩ => V1.lenSl ty_23 rfl) ?_
      refine TD.done (by decide +kernel) ?_
      exact ⟨(au, cu, _, Ls2), _, _, trivial, (.cons rfl (.cons rfl (.cons rfl (.cons rfl .nil)))), .nil, (by repeat (first | exact Take.nil | apply Take.one (by repeat (first | exact Pick.here | apply Pick.there | apply Pick.far)) | apply Take.seg (by repeat (first | exact PickS.last | exact PickS.one | exact PickS.here | exact PickS.nil | apply PickS.there | apply PickS.far)) | exact Take.last (by repeat (first | exact PickS.last | exact PickS.one | exact PickS.here | exact PickS.nil | apply PickS.there | apply PickS.far)))), ⟨rfl, hru, htu⟩⟩
  ·
    rintro ⟨au, cu, vu, Lu⟩ e_ L ⟨rfl, hru, htu⟩
    simp only at hru htu
    have hLu : Inc (Lu ++ Ps) (Lu ++ G) := Inc.app Inc.here (Inc.skip hG)
    refine T.block ?_
    refine T.loopL (σ := Nat × Nat) (l0 := [(13, _), (14, _)]) (fun x => [(15, .int .i64 (x.1 : Nat)), (5, .int .i64 (x.2 : Nat))]) (fun x L => L = Lu ++ G ∧ x.1 ≤ us.length ∧ (∀ y ∈ us.take x.1, chk y = 0) ∧ x.2 = nparts (us.take x.1)) (fun x => us.length - x.1) (0, 0) (.cons rfl (.cons rfl .nil)) (.cons (by (conv => lhs; whnf) <;> rfl) (.cons (by (conv => lhs; whnf) <;> rfl) .nil)) (by repeat (first | exact Take.nil | apply Take.one (by repeat (first | exact Pick.here | apply Pick.there | apply Pick.far)) | apply Take.seg (by repeat (first | exact PickS.last | exact PickS.one | exact PickS.here | exact PickS.nil | apply PickS.there | apply PickS.far)) | exact Take.last (by repeat (first | exact PickS.last | exact PickS.one | exact PickS.here | exact PickS.nil | apply PickS.there | apply PickS.far)))) (⟨rfl, Nat.zero_le _, by simp, rfl⟩) ?_
    rintro ⟨i, m⟩ e_ L ⟨rfl, hi, hcs, hm⟩
    simp only at hi hcs hm
    have hmb := nparts_le hcs
    rw [List.length_take, Nat.min_eq_left hi] at hmb
    refine T.seq ?_
    refine T.region ?_
    refine TL.cons rfl (T1.ltI_split rfl rfl (fun h9 => ?_) (fun h9 => ?_))
    ·
      obtain ⟨x, hx0⟩ : ∃ x, us[i]? = some x := ⟨_, List.getElem?_eq_getElem (by omega)⟩
      obtain ⟨bx, ox, cs_, rfl, hx, hrdx⟩ := hru.term htu hx0 P
      obtain ⟨kx, nx, asx⟩ := x
      obtain ⟨ax, cx, vsx, rfl, hrx, hlx, htx⟩ := hx.inv
      try simp only at *
      refine TL.nil ?_
      refine T.seq ?_
      refine T.cond_t rfl ?_
      refine T.skip ?_
      refine T.seq ?_
      refine T.block ?_
      refine T.seq ?_
      refine T.region ?_
      refine TL.cons rfl (V1.t (V1.indexAddrS ty_23 sz_26 rfl rfl (by omega) (by omega)) ?_)
      refine TL.cons rfl (V1.t (V1.loadN (vs := [.int .i64 kx, .string (bstr nx), .slice ax asx.length cx]) one_26 sz_26 rfl (hrdx _ rfl rfl _ hLu) rfl) ?_)
      refine TL.cons rfl (T1.allocN 3 zr_26 rfl (fun b7 => ?_))
      refine TL.cons rfl (T1.storeN rfl rfl sz_26 (ones rfl) (by repeat (first | exact Sub.one | apply Sub.there | apply Sub.far)) (by rfl) (by rfl) ?_)
      refine TL.nil ?_
      refine T.seq ?_
      refine T.seq ?_
      refine T.region ?_
      refine TL.cons rfl (V1.t (V1.loadN one_26 sz_26 rfl (RdN.whole (by repeat (first | exact Find.here | assumption | apply Find.there | apply Find.far))) (by rfl)) ?_)
      refine TL.cons rfl (T1.callV has_17 rfl rfl (Check_any w0 Ps (.mk kx nx asx) _ hx) (by repeat (first | exact Inc.nil | assumption | exact Inc.refl | exact Inc.here | apply Inc.app | apply Inc.cons (by repeat (first | exact Find.here | assumption | apply Find.there | apply Find.far)) | apply Inc.skip1 | apply Inc.skip)) (fun v_ hv => ?_))
      obtain rfl := hv
      refine TL.cons rfl (T1.neI_split rfl rfl (fun h5 => ?_) (fun h5 => ?_))
      ·
        refine TL.nil ?_
        refine T.cond_t rfl ?_
        refine T.seq ?_
        refine T.region ?_
        refine TL.cons rfl (V1.t (V1.assign' (by (conv => lhs; whnf) <;> rfl)) ?_)
        refine TL.nil ?_
        refine T.ret ?_
        exact ⟨_, G, _, .cons (.tmp (by (conv => lhs; whnf) <;> rfl)) .nil, (by repeat (first | exact Take.nil | apply Take.one (by repeat (first | exact Pick.here | apply Pick.there | apply Pick.far)) | apply Take.seg (by repeat (first | exact PickS.last | exact PickS.one | exact PickS.here | exact PickS.nil | apply PickS.there | apply PickS.far)) | exact Take.last (by repeat (first | exact PickS.last | exact PickS.one | exact PickS.here | exact PickS.nil | apply PickS.there | apply PickS.far)))), rfl, false, rfl, by simp only [Bool.false_eq_true, false_iff]; intro hh; exact h5 (hh.1 _ (List.mem_of_getElem? hx0))⟩
      ·
        have hsz := (chk_iff.1 h5).1
        have hnp := npart_le (.mk kx nx asx)
        refine TL.nil ?_
        refine T.cond_f rfl ?_
        refine T.skip ?_
        refine T.region ?_
        refine TL.cons rfl (V1.t (V1.move' (by (conv => lhs; whnf) <;> rfl)) ?_)
        refine TL.cons rfl (V1.t (V1.loadN one_26 sz_26 rfl (RdN.whole (by repeat (first | exact Find.here | assumption | apply Find.there | apply Find.far))) (by rfl)) ?_)
        refine TL.cons rfl (T1.callC has_18 rfl rfl (Parts_any w0 Ps (.mk kx nx asx) _ hx (by omega)) (by repeat (first | exact Inc.nil | assumption | exact Inc.refl | exact Inc.here | apply Inc.app | apply Inc.cons (by repeat (first | exact Find.here | assumption | apply Find.there | apply Find.far)) | apply Inc.skip1 | apply Inc.skip)) (fun v_ Y_ hY => ?_))
        obtain ⟨up, wp, hsp, hmp, hslp, htp⟩ := hY
        obtain ⟨ap, cp, rfl, _⟩ := SlG.tm hslp htp
        have hnpe := npart_of hsp.nodup hmp
        refine TL.cons rfl (V1.t (V1.lenSl ty_23 rfl) ?_)
        refine TL.cons rfl (V1.t (V1.add (c := ((m + npart (.mk kx nx asx) : Nat) : Int)) rfl rfl (by rw [hnpe, wrap_i64 _ (by omega) (by omega)]; omega)) ?_)
        refine TL.cons rfl (V1.t (V1.assign' (by (conv => lhs; whnf) <;> rfl)) ?_)
        refine TL.nil ?_
        refine T.region ?_
        refine TL.cons rfl (V1.t (V1.add (c := ((i + 1 : Nat) : Int)) rfl rfl (by rw [wrap_i64 _ (by omega) (by omega)]; omega)) ?_)
        refine TL.cons rfl (V1.t (V1.move' (by (conv => lhs; whnf) <;> rfl)) ?_)
        refine TL.nil ?_
        exact ⟨(i + 1, m + npart (.mk kx nx asx)), Lu ++ G, _, (by simp only; omega), (.cons rfl (.cons rfl .nil)), (.cons rfl (.cons rfl .nil)), (by repeat (first | exact Take.nil | apply Take.one (by repeat (first | exact Pick.here | apply Pick.there | apply Pick.far)) | apply Take.seg (by repeat (first | exact PickS.last | exact PickS.one | exact PickS.here | exact PickS.nil | apply PickS.there | apply PickS.far)) | exact Take.last (by repeat (first | exact PickS.last | exact PickS.one | exact PickS.here | exact PickS.nil | apply PickS.there | apply PickS.far)))), ⟨rfl, by simp only; omega, take_all hx0 hcs h5, by simp only; rw [nparts_take hx0, hm]⟩⟩
    ·
      obtain rfl : i = us.length := by omega
      rw [List.take_length] at hm hcs
      refine TL.nil ?_
      refine T.seq ?_
      refine T.cond_f rfl ?_
      refine T.exit ?_
      refine T.seq ?_
      refine T.region ?_
      refine TL.cons rfl (V1.t (V1.move' (by (conv => lhs; whnf) <;> rfl)) ?_)
      refine TL.cons rfl (V1.t (V1.leI (r := decide ((m : Int) ≤ 60)) rfl rfl rfl) ?_)
      refine TL.cons rfl (V1.t (V1.assign' (by (conv => lhs; whnf) <;> rfl)) ?_)
      refine TL.nil ?_
      refine T.ret ?_
      exact ⟨_, G, _, .cons (.tmp (by (conv => lhs; whnf) <;> rfl)) .nil, (by repeat (first | exact Take.nil | apply Take.one (by repeat (first | exact Pick.here | apply Pick.there | apply Pick.far)) | apply Take.seg (by repeat (first | exact PickS.last | exact PickS.one | exact PickS.here | exact PickS.nil | apply PickS.there | apply PickS.far)) | exact Take.last (by repeat (first | exact PickS.last | exact PickS.one | exact PickS.here | exact PickS.nil | apply PickS.there | apply PickS.far)))), rfl, _, rfl, by rw [decide_eq_true_iff, hm]; exact ⟨fun h => ⟨hcs, by omega⟩, fun h => by have := h.2; omega⟩⟩

theorem few_any (w0 : World) (Ps : List Blk) {ts : List Tm} {a : Option Addr} {c n : Nat} {vs : List Value} (hn : n = ts.length) (hr : RowR w0 Ps 3 (.slice a n c) n vs) (ht : TmsR w0 Ps ts vs) {t : Tm} {ct : List Value} (hct : TmR w0 Ps t ct) (hb : ts.length * 48 ≤ 140737488355328) :
    FnV P 27 [.slice a n c, .agg ct.toArray] w0 Ps fun v => ∃ r, v = .bool r ∧ (r = true ↔ (∀ x ∈ ts ++ [t], chk x = 0) ∧ nparts (ts ++ [t]) ≤ 60) := by
  subst hn; exact few_us w0 Ps hr ht hct hb rfl
/-- Can it be made, as a truth. -/
noncomputable def ansB (ts : List Tm) (t : Tm) : Bool := @decide (Ans ts t) (Classical.propDecidable _)
theorem ansB_iff {ts : List Tm} {t : Tm} : ansB ts t = true ↔ Ans ts t := by unfold ansB; exact @decide_eq_true_iff _ (Classical.propDecidable _)
theorem Makes_d {w0 : World} {Ps : List Blk} {kb : Nat} {l ts : List Tm} {Y : List Blk} (hk : KnO w0 Ps kb l Y) (hn : Kn ts l) (Qs : List Blk) {t : Tm} {ct : List Value} (hx : TmR w0 Qs t ct) : FnV P 20 [.pointer (some ⟨kb, 0, none⟩), .agg ct.toArray] w0 (Y ++ (Qs ++ Ps)) fun v => v = .bool (ansB ts t) := by
  refine (Makes_k hk hn Qs hx).mono ?_
  rintro v Y' ⟨h1, r, rfl, h2⟩
  exact ⟨h1, by congr 1; rw [Bool.eq_iff_iff, ansB_iff]; exact h2⟩

end Go.Proofs.YtlpkcbkflfbclaaDoor.S
