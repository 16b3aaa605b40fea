/- Whether a raw term can be made of raw terms that are known is the answer of the document. -/
import Derived.Test.YtlpkcbkflfbclaaDoorT15
import Derived.Test.YtlpkcbkflfbclaaDoorT27
namespace Go.Proofs.YtlpkcbkflfbclaaDoor.S
open Go.RowKit

theorem take_one {ts : List Tm} {i : Nat} {x : Tm} (h : ts[i]? = some x) : ts.take (i + 1) = ts.take i ++ [x] := by rw [List.take_add_one, h]; rfl
theorem nrm_size (x : Tm) : shp x = true → (nrm x).size ≤ x.size := by
  induction x using Tm.ind with
  | h k n ts ih =>
    intro hs
    have ht := (shp_mk.1 hs).2
    have hL : ∀ us : List Tm, (∀ x ∈ us, (nrm x).size ≤ x.size) → tsize (nrmL us) ≤ tsize us := by
      intro us
      induction us with
      | nil => intro _; exact Nat.le_refl _
      | cons a us iha => intro h; rw [nrmL, tsize, tsize]; have := h a (by simp); have := iha fun x hx => h x (by simp [hx]); omega
    have h2 : ∀ a b : Tm, tsize (two [a, b]) = a.size + b.size := by
      intro a b
      rw [two]
      split <;> simp only [tsize] <;> omega
    rcases nrm_cases hs with ⟨rfl, rfl, p, q, rfl, hnr⟩ | ⟨rfl, rfl, p, q, z, rfl, hq, hnr⟩ | ⟨rfl, rfl, p, q, kq, nq, aq, rfl, hq, hkq, hnr⟩ | ⟨hk6, hk7, hnr⟩
    · rw [hnr, Tm.size, h2, Tm.size, tsize, tsize, tsize]
      have := ih p (by simp) (ht p (by simp)); have := ih q (by simp) (ht q (by simp)); omega
    · rw [hnr, Tm.size, h2, Tm.size, tsize, tsize, tsize]
      have h1 := ih p (by simp) (ht p (by simp)); have h3 := ih q (by simp) (ht q (by simp))
      rw [hq, Tm.size, tsize, tsize] at h3; omega
    · rw [hnr, Tm.size, Tm.size]
      have := hL [p, q] (fun x hx => ih x hx (ht x hx)); omega
    · rw [hnr, Tm.size, Tm.size]
      have := hL ts (fun x hx => ih x hx (ht x hx)); omega
theorem npart_nrm {x : Tm} (h : shp x = true) : npart (nrm x) ≤ npart x := by
  have := nodup_le (big := (prt x []).map nrm) (prt_nodup (nrm x)) fun y hy => by
    obtain ⟨z, hz, rfl⟩ := subs_nrm x h y ((prt_mem _ y).1 hy)
    exact List.mem_map_of_mem ((prt_mem x z).2 hz)
  rw [List.length_map] at this
  exact this
theorem nparts_nrm {ts : List Tm} (h : ∀ x ∈ ts, shp x = true) : nparts (ts.map nrm) ≤ nparts ts := by
  induction ts with
  | nil => exact Nat.le_refl _
  | cons a ts ih =>
    rw [List.map_cons, nparts_cons, nparts_cons]
    have := npart_nrm (h a (by simp)); have := ih fun x hx => h x (by simp [hx]); omega
theorem known_ok {ts : List Tm} {x : Tm} (h : ∀ y ∈ ts ++ [x], chk y = 0) : ∀ y ∈ ts.map nrm ++ [nrm x], shp y = true ∧ y.size ≤ 1000 := by
  intro y hy
  obtain ⟨z, hz, rfl⟩ : ∃ z ∈ ts ++ [x], y = nrm z := by
    rcases List.mem_append.1 hy with hy | hy
    · obtain ⟨z, hz, rfl⟩ := List.mem_map.1 hy; exact ⟨z, List.mem_append_left _ hz, rfl⟩
    · rw [List.mem_singleton] at hy; exact ⟨x, by simp, hy⟩
  have hc := chk_iff.1 (h z hz)
  exact ⟨shp_nrm z hc.2.2, Nat.le_trans (nrm_size z hc.2.2) hc.1⟩
theorem known_few {ts : List Tm} {x : Tm} (h : ∀ y ∈ ts ++ [x], chk y = 0) (hn : nparts (ts ++ [x]) ≤ 60) : nparts (ts.map nrm ++ [nrm x]) ≤ 1000 := by
  have := nparts_nrm (ts := ts ++ [x]) fun y hy => (chk_iff.1 (h y hy)).2.2
  rw [List.map_append, List.map_cons, List.map_nil] at this; omega
theorem makes_same {ts : List Tm} {x : Tm} {r : Bool} (hc : chk x = 0) (hr : r = true ↔ Der (· ∈ ts.map nrm) (nrm x)) : (ansB ts x == r) = true := by
  rw [beq_iff_eq, Bool.eq_iff_iff, ansB_iff, hr]
  have hb : ∀ y, Bs ts y ↔ y ∈ ts.map nrm := fun y => ⟨fun ⟨z, hz, e⟩ => e ▸ List.mem_map_of_mem hz, fun hy => by obtain ⟨z, hz, e⟩ := List.mem_map.1 hy; exact ⟨z, hz, e.symm⟩⟩
  exact ⟨fun h => h.2.mono fun y hy => (hb y).1 hy, fun h => ⟨hc, h.mono fun y hy => (hb y).2 hy⟩⟩

set_option maxRecDepth 100000 in
set_option maxHeartbeats 8000000 in
theorem RMakes_us (w0 : World) (Ps : List Blk) {kn : List Tm} {a : Option Addr} {c : Nat} {vs : List Value} (hr : RowR w0 Ps 3 (.slice a kn.length c) kn.length vs) (ht : TmsR w0 Ps kn vs) {t : Tm} {ct : List Value} (hct : TmR w0 Ps t ct) (hok : ∀ x ∈ kn ++ [t], shp x = true ∧ x.size ≤ 1000) (hnp : nparts (kn ++ [t]) ≤ 1000) : FnV P 30 [.slice a kn.length c, .agg ct.toArray] w0 Ps (fun v => ∃ r, v = .bool r ∧ (r = true ↔ Der (· ∈ kn) t)) := by
  obtain ⟨kt, nt, ast⟩ := t
  obtain ⟨at_, ct_, vst, rfl, hrt, hlt, htt⟩ := hct.inv
  refine FnV.of 11 [.tmp 4] Go.Proofs.Tryd.func30 rfl rfl rfl rfl (fun G hG => ?_)
  refine T.seq ?_
  refine T.region ?_
  refine TL.cons rfl (T1.boxN 3 rfl rfl (fun b3 => ?_))
  refine TL.cons rfl (V1.t (V1.assign' (by (conv => lhs; whnf) <;> rfl)) ?_)
  refine TL.nil ?_
  refine T.seq ?_
  refine T.drawK (fun L_ => Find L_ ⟨b3, 0, [.int .i64 kt, .string (bstr nt), .slice at_ ast.length ct_], 3⟩) mixed (by repeat (first | exact Find.here | assumption | apply Find.there | apply Find.far)) ?_
  refine TK.take 0 rfl (by decide +kernel) (by decide +kernel) (by decide +kernel) rfl (fun _ _ _ h => h) (fun L_ k1_ => V1.move' (by (conv => lhs; whnf) <;> rfl)) ?_
  refine TK.take 1 rfl (by decide +kernel) (by decide +kernel) (by decide +kernel) rfl (fun _ _ _ h => h) (fun L_ k1_ => V1.loadN one_49 sz_49 rfl (RdN.whole (by repeat (first | exact Find.here | assumption | apply Find.there | apply Find.far))) (by rfl)) ?_
  refine TK.take 3 rfl (by decide +kernel) (by decide +kernel) (by decide +kernel) rfl (fun _ _ _ h => h) (fun L_ k1_ => V1.loadN one_49 sz_49 rfl (RdN.whole (by repeat (first | exact Find.here | assumption | apply Find.there | apply Find.far))) (by rfl)) ?_
  refine TK.one 2 (by decide +kernel) rfl rfl (T1.callC has_53 rfl rfl (Had_any w0 Ps hr ht hct hok hnp) (by repeat (first | exact Inc.nil | assumption | exact Inc.refl | exact Inc.here | apply Inc.app | apply Inc.cons (by repeat (first | exact Find.here | assumption | apply Find.there | apply Find.far)) | apply Inc.skip1 | apply Inc.skip)) (fun v_ Y_ hY => ?_))
  obtain ⟨Lo, Q, ou, xs, rfl, hslo, hxo, hlo, hmem⟩ := hY
  obtain ⟨ao, co, rfl, hro⟩ := hslo.tm hxo
  simp only [List.append_assoc]
  refine ⟨(by repeat (first | exact Find.here | assumption | apply Find.there | apply Find.far)), ?_⟩
  refine TK.one 4 (by decide +kernel) rfl rfl (T1.callV has_52 rfl rfl (Find_any w0 (Lo ++ (Q ++ Ps)) hro (hxo.more (Inc.skip Inc.refl)) (by omega) (Tm.mk kt nt ast) _ (hct.more (Inc.skip (Inc.skip Inc.refl)))) (by repeat (first | exact Inc.nil | assumption | exact Inc.refl | exact Inc.here | apply Inc.app | apply Inc.cons (by repeat (first | exact Find.here | assumption | apply Find.there | apply Find.far)) | apply Inc.skip1 | apply Inc.skip)) (fun v_ hv => ?_))
  obtain ⟨r, rfl, hr_⟩ := hv
  refine ⟨(by repeat (first | exact Find.here | assumption | apply Find.there | apply Find.far)), ?_⟩
  refine TK.take 5 rfl (by decide +kernel) (by decide +kernel) (by decide +kernel) rfl (fun _ _ _ h => h) (fun L_ k1_ => V1.geI (r := decide (r ≥ 0)) rfl rfl rfl) ?_
  refine TK.take 6 rfl (by decide +kernel) (by decide +kernel) (by decide +kernel) rfl (fun _ _ _ h => h) (fun L_ k1_ => V1.assign' (by (conv => lhs; whnf) <;> rfl)) ?_
  refine TD.done (by decide +kernel) ?_
  refine T.ret ?_
  exact ⟨_, G, _, .cons (.tmp (by (conv => lhs; whnf) <;> rfl)) .nil, (by repeat (first | exact Take.nil | apply Take.one (by repeat (first | exact Pick.here | apply Pick.there | apply Pick.far)) | apply Take.seg (by repeat (first | exact PickS.last | exact PickS.one | exact PickS.here | exact PickS.nil | apply PickS.there | apply PickS.far)) | exact Take.last (by repeat (first | exact PickS.last | exact PickS.one | exact PickS.here | exact PickS.nil | apply PickS.there | apply PickS.far)))), rfl, _, rfl, by rw [decide_eq_true_iff]; exact hr_.ge.trans hmem⟩

theorem RMakes_any (w0 : World) (Ps : List Blk) {kn : List Tm} {a : Option Addr} {c n : Nat} {vs : List Value} (hn : n = kn.length) (hr : RowR w0 Ps 3 (.slice a n c) n vs) (ht : TmsR w0 Ps kn vs) {t : Tm} {ct : List Value} (hct : TmR w0 Ps t ct) (hok : ∀ x ∈ kn ++ [t], shp x = true ∧ x.size ≤ 1000) (hnp : nparts (kn ++ [t]) ≤ 1000) :
    FnV P 30 [.slice a n c, .agg ct.toArray] w0 Ps (fun v => ∃ r, v = .bool r ∧ (r = true ↔ Der (· ∈ kn) t)) := by
  subst hn; exact RMakes_us w0 Ps hr ht hct hok hnp
set_option maxRecDepth 100000 in
set_option maxHeartbeats 8000000 in
theorem KnowsMakes_any (w0 : World) {ts : List Tm} {a : Option Addr} {c : Nat} {vs : List Value} (hr : RowR w0 [] 3 (.slice a ts.length c) ts.length vs) (ht : TmsR w0 [] ts vs) (hb : ts.length * 48 ≤ 140737488351232) {t : Tm} {ct : List Value} (hct : TmR w0 [] t ct) : FnV P 6 [.slice a ts.length c, .agg ct.toArray] w0 [] (fun v => v = .bool true) := by
  obtain ⟨kt, nt, ast⟩ := t
  obtain ⟨at_, ct_, vst, rfl, hrt, hlt, htt⟩ := hct.inv
  refine FnV.of 49 [.tmp 4] Go.Proofs.Tryd.func6 rfl rfl rfl rfl (fun G hG => ?_)
  refine T.seq ?_
  refine T.region ?_
  refine TL.cons rfl (T1.boxN 3 rfl rfl (fun b3 => ?_))
  refine TL.cons rfl (V1.t (V1.assign' (by (conv => lhs; whnf) <;> rfl)) ?_)
  refine TL.nil ?_
  refine T.seq ?_
  refine T.seq ?_
  refine T.region ?_
  refine TL.cons rfl (T1.callV has_24 rfl rfl (opens_any w0) (by repeat (first | exact Inc.nil | assumption | exact Inc.refl | exact Inc.here | apply Inc.app | apply Inc.cons (by repeat (first | exact Find.here | assumption | apply Find.there | apply Find.far)) | apply Inc.skip1 | apply Inc.skip)) (fun v_ hv => ?_))
  obtain rfl := hv
  refine TL.cons rfl (V1.t (V1.not rfl rfl) ?_)
  refine TL.nil ?_
  refine T.cond_f rfl ?_
  refine T.skip ?_
  refine T.seq ?_
  refine T.seq ?_
  refine T.region ?_
  refine TL.cons rfl (V1.t (V1.move' (by (conv => lhs; whnf) <;> rfl)) ?_)
  refine TL.cons rfl (V1.t (V1.loadN one_26 sz_26 rfl (RdN.whole (by repeat (first | exact Find.here | assumption | apply Find.there | apply Find.far))) (by rfl)) ?_)
  refine TL.cons rfl (T1.callV has_27 rfl rfl (few_any w0 [] rfl hr ht (t := (Tm.mk kt nt ast)) hct (by omega)) (by repeat (first | exact Inc.nil | assumption | exact Inc.refl | exact Inc.here | apply Inc.app | apply Inc.cons (by repeat (first | exact Find.here | assumption | apply Find.there | apply Find.far)) | apply Inc.skip1 | apply Inc.skip)) (fun v_ hv => ?_))
  obtain ⟨r, rfl, hfew⟩ := hv
  rcases Bool.eq_false_or_eq_true r with hrb | hrb <;> subst hrb
  ·
    obtain ⟨hcs, hnp⟩ := hfew.1 rfl
    have hcts : ∀ t ∈ ts, chk t = 0 := fun t ht => hcs t (List.mem_append_left _ ht)
    have hck : chk (Tm.mk kt nt ast) = 0 := hcs _ (by simp)
    have hsh := (chk_iff.1 hck).2.2
    have hnp2 := hnp
    rw [nparts_app] at hnp2
    refine TL.cons rfl (V1.t (V1.not rfl rfl) ?_)
    refine TL.nil ?_
    refine T.cond_f rfl ?_
    refine T.skip ?_
    refine T.seq ?_
    refine T.region ?_
    refine TL.cons rfl (V1.t (V1.move' (by (conv => lhs; whnf) <;> rfl)) ?_)
    refine TL.cons rfl (T1.callC has_19 rfl rfl (New_kn w0 [] rfl hr ht hcts (by omega)) (by repeat (first | exact Inc.nil | assumption | exact Inc.refl | exact Inc.here | apply Inc.app | apply Inc.cons (by repeat (first | exact Find.here | assumption | apply Find.there | apply Find.far)) | apply Inc.skip1 | apply Inc.skip)) (fun v_ Ya hY => ?_))
    obtain ⟨kba, la, rfl, hkna, hka⟩ := hY
    refine TL.cons rfl (V1.t (V1.move' (by (conv => lhs; whnf) <;> rfl)) ?_)
    refine TL.cons rfl (V1.t (V1.extract rfl (by rfl)) ?_)
    refine TL.cons rfl (V1.t (V1.extract rfl (by rfl)) ?_)
    refine TL.cons rfl (V1.t (V1.assign' (by (conv => lhs; whnf) <;> rfl)) ?_)
    refine TL.cons rfl (V1.t (V1.assign' (by (conv => lhs; whnf) <;> rfl)) ?_)
    refine TL.nil ?_
    refine T.seq ?_
    refine T.seq ?_
    refine T.live (l := [(0, _), (3, _), (5, _), (6, _)]) (.cons (by (conv => lhs; whnf) <;> rfl) (.cons (by (conv => lhs; whnf) <;> rfl) (.cons (by (conv => lhs; whnf) <;> rfl) (.cons (by (conv => lhs; whnf) <;> rfl) .nil)))) (fun e_ => ?_)
    refine T.region ?_
    refine TL.cons rfl (V1.t (V1.move' (by (conv => lhs; whnf) <;> rfl)) ?_)
    refine TL.cons rfl (V1.t (V1.neI (r := false) rfl rfl (by decide)) ?_)
    refine TL.cons rfl (V1.t (V1.move' (by (conv => lhs; whnf) <;> rfl)) ?_)
    refine TL.cons rfl (V1.t (V1.move' (by (conv => lhs; whnf) <;> rfl)) ?_)
    refine TL.cons rfl (V1.t (V1.eqNil ty_35 rfl rfl) ?_)
    refine TL.cons rfl (V1.t (V1.pick rfl (by (conv => lhs; whnf) <;> rfl)) ?_)
    refine TL.nil ?_
    refine T.cond_f rfl ?_
    refine T.skip ?_
    refine T.seq ?_
    refine T.region ?_
    refine TL.cons rfl (V1.t (V1.assign' (by (conv => lhs; whnf) <;> rfl)) ?_)
    refine TL.nil ?_
    refine T.seq ?_
    refine T.seq ?_
    refine T.region ?_
    refine TL.cons rfl (V1.t (V1.move' (by (conv => lhs; whnf) <;> rfl)) ?_)
    refine TL.cons rfl (V1.t (V1.lenSl ty_23 rfl) ?_)
    refine TL.cons rfl (V1.t (V1.move' (by (conv => lhs; whnf) <;> rfl)) ?_)
    refine TL.nil ?_
    refine T.block ?_
    refine T.loopL (σ := Nat × Value) (l0 := [(3, _), (5, _), (27, _), (28, _)]) (fun x => [(29, .int .i64 (x.1 : Nat)), (7, x.2)]) (fun x L => ∃ Ls Y xs, L = Ls ++ (Y ++ (Ya ++ (⟨b3, 0, [.int .i64 kt, .string (bstr nt), .slice at_ ast.length ct_], 3⟩ :: G))) ∧ x.1 ≤ ts.length ∧ SlG (some 49) x.2 xs 3 Ls ∧ TmsR w0 Y ((ts.take x.1).map nrm) xs) (fun x => ts.length - x.1) (0, .slice none 0 0) (.cons rfl (.cons rfl .nil)) (.cons (by (conv => lhs; whnf) <;> rfl) (.cons (by (conv => lhs; whnf) <;> rfl) (.cons (by (conv => lhs; whnf) <;> rfl) (.cons (by (conv => lhs; whnf) <;> rfl) .nil)))) (by repeat (first | exact Take.nil | apply Take.one (by repeat (first | exact Pick.here | apply Pick.there | apply Pick.far)) | apply Take.seg (by repeat (first | exact PickS.last | exact PickS.one | exact PickS.here | exact PickS.nil | apply PickS.there | apply PickS.far)) | exact Take.last (by repeat (first | exact PickS.last | exact PickS.one | exact PickS.here | exact PickS.nil | apply PickS.there | apply PickS.far)))) (⟨[], [], [], rfl, Nat.zero_le _, SlG.nil, TmsR.nil⟩) ?_
    rintro ⟨i, s⟩ e_ L ⟨Ls, Y, xs, rfl, hi, hsl, hxs⟩
    simp only at hi hsl hxs
    have hxl := hxs.len
    rw [List.length_map, List.length_take, Nat.min_eq_left hi] at hxl
    refine T.seq ?_
    refine T.region ?_
    refine TL.cons rfl (T1.ltI_split rfl rfl (fun h10 => ?_) (fun h10 => ?_))
    ·
      obtain ⟨x, hx0⟩ : ∃ x, ts[i]? = some x := ⟨_, List.getElem?_eq_getElem (by omega)⟩
      have hshx := (chk_iff.1 (hcts x (List.mem_of_getElem? hx0))).2.2
      obtain ⟨bx, ox, cs_, rfl, hx, hrdx⟩ := hr.term ht hx0 P
      obtain ⟨kx, nx, asx⟩ := x
      obtain ⟨ax, cx, vsx, rfl, hrx, hlx, htx⟩ := hx.inv
      try simp only at *
      refine TL.nil ?_
      refine T.seq ?_
      refine T.cond_t rfl ?_
      refine T.skip ?_
      refine T.seq ?_
      refine T.block ?_
      refine T.seq ?_
      refine T.region ?_
      refine TL.cons rfl (V1.t (V1.indexAddrS ty_23 sz_26 rfl rfl (by omega) (by omega)) ?_)
      refine TL.cons rfl (V1.t (V1.loadN (vs := [.int .i64 kx, .string (bstr nx), .slice ax asx.length cx]) one_26 sz_26 rfl (hrdx _ rfl rfl _ (by repeat (first | exact Inc.nil | assumption | exact Inc.refl | exact Inc.here | apply Inc.app | apply Inc.cons (by repeat (first | exact Find.here | assumption | apply Find.there | apply Find.far)) | apply Inc.skip1 | apply Inc.skip))) rfl) ?_)
      refine TL.cons rfl (T1.allocN 3 zr_26 rfl (fun b9 => ?_))
      refine TL.cons rfl (T1.storeN rfl rfl sz_26 (ones rfl) (by repeat (first | exact Sub.one | apply Sub.there | apply Sub.far)) (by rfl) (by rfl) ?_)
      refine TL.nil ?_
      refine T.region ?_
      refine TL.cons rfl (V1.t (V1.move' (by (conv => lhs; whnf) <;> rfl)) ?_)
      refine TL.cons rfl (V1.t (V1.loadN one_26 sz_26 rfl (RdN.whole (by repeat (first | exact Find.here | assumption | apply Find.there | apply Find.far))) (by rfl)) ?_)
      refine TL.cons rfl (T1.callC has_29 rfl rfl (plain_any w0 (Tm.mk kx nx asx) [] _ hx hshx) (by repeat (first | exact Inc.nil | assumption | exact Inc.refl | exact Inc.here | apply Inc.app | apply Inc.cons (by repeat (first | exact Find.here | assumption | apply Find.there | apply Find.far)) | apply Inc.skip1 | apply Inc.skip)) (fun v_ Yp hY => ?_))
      obtain ⟨cp, rfl, hcp⟩ := hY
      refine TL.cons rfl (T1.callC has_28 rfl rfl (RNormal_any w0 (Tm.mk kx nx asx) (Yp ++ []) _ hcp hshx) (by repeat (first | exact Inc.nil | assumption | exact Inc.refl | exact Inc.here | apply Inc.app | apply Inc.cons (by repeat (first | exact Find.here | assumption | apply Find.there | apply Find.far)) | apply Inc.skip1 | apply Inc.skip)) (fun v_ Yn hY => ?_))
      obtain ⟨cn, rfl, hcn⟩ := hY
      refine TL.cons rfl (T1.buildOne (cs := cn) ty_47 sz_49 zr_49 (by decide) rfl hcn.len (fun b37 => ?_))
      refine TL.cons rfl (T1.appendG ty_47 kd_47 sz_49 by_49 zr_49 rfl (by decide) (by decide) rfl rfl (.inr rfl) hsl (.sl (RdN.at0 (by repeat (first | exact Find.here | assumption | apply Find.there | apply Find.far))) (by rw [hcn.len])) hcn.ones (ts.length) (by rw [hxl, hcn.len]; omega) (by omega) (by repeat (first | exact PickS.last | exact PickS.one | exact PickS.here | exact PickS.nil | apply PickS.there | apply PickS.far)) (fun s2 Ls2 hsl2 => ?_))
      refine TL.cons rfl (V1.t (V1.assign' (by (conv => lhs; whnf) <;> rfl)) ?_)
      refine TL.nil ?_
      refine T.region ?_
      refine TL.cons rfl (V1.t (V1.add (c := ((i + 1 : Nat) : Int)) rfl rfl (by rw [wrap_i64 _ (by omega) (by omega)]; omega)) ?_)
      refine TL.cons rfl (V1.t (V1.move' (by (conv => lhs; whnf) <;> rfl)) ?_)
      refine TL.nil ?_
      exact ⟨(i + 1, s2), Ls2 ++ (Yn ++ (Yp ++ (Y ++ (Ya ++ (⟨b3, 0, [.int .i64 kt, .string (bstr nt), .slice at_ ast.length ct_], 3⟩ :: G))))), _, (by simp only; omega), (.cons rfl (.cons rfl .nil)), (.cons rfl (.cons rfl (.cons rfl (.cons rfl .nil)))), (by repeat (first | exact Take.nil | apply Take.one (by repeat (first | exact Pick.here | apply Pick.there | apply Pick.far)) | apply Take.seg (by repeat (first | exact PickS.last | exact PickS.one | exact PickS.here | exact PickS.nil | apply PickS.there | apply PickS.far)) | exact Take.last (by repeat (first | exact PickS.last | exact PickS.one | exact PickS.here | exact PickS.nil | apply PickS.there | apply PickS.far)))), ⟨Ls2, Yn ++ (Yp ++ Y), _, by simp only [List.append_assoc], by simp only; omega, hsl2, by rw [take_one hx0, List.map_append]; exact (hxs.more (by intro B_ hB_; simp only [List.mem_append, List.mem_cons, List.not_mem_nil, or_false, List.append_nil] at hB_ ⊢; grind)).app (TmsR.one (hcn.more (by intro B_ hB_; simp only [List.mem_append, List.mem_cons, List.not_mem_nil, or_false, List.append_nil] at hB_ ⊢; grind)))⟩⟩
    ·
      obtain rfl : i = ts.length := by omega
      rw [List.take_length] at hxs
      obtain ⟨au, cu, rfl, hru⟩ := hsl.tm hxs
      refine TL.nil ?_
      refine T.seq ?_
      refine T.cond_f rfl ?_
      refine T.exit ?_
      refine T.seq ?_
      refine T.drawK (fun L_ => Find L_ ⟨b3, 0, [.int .i64 kt, .string (bstr nt), .slice at_ ast.length ct_], 3⟩) mixed (by repeat (first | exact Find.here | assumption | apply Find.there | apply Find.far)) ?_
      refine TK.take 0 rfl (by decide +kernel) (by decide +kernel) (by decide +kernel) rfl (fun _ _ _ h => h) (fun L_ k1_ => V1.move' (by (conv => lhs; whnf) <;> rfl)) ?_
      refine TK.take 1 rfl (by decide +kernel) (by decide +kernel) (by decide +kernel) rfl (fun _ _ _ h => h) (fun L_ k1_ => V1.loadN one_26 sz_26 rfl (RdN.whole (by repeat (first | exact Find.here | assumption | apply Find.there | apply Find.far))) (by rfl)) ?_
      refine TK.take 3 rfl (by decide +kernel) (by decide +kernel) (by decide +kernel) rfl (fun _ _ _ h => h) (fun L_ k1_ => V1.move' (by (conv => lhs; whnf) <;> rfl)) ?_
      refine TK.take 4 rfl (by decide +kernel) (by decide +kernel) (by decide +kernel) rfl (fun _ _ _ h => h) (fun L_ k1_ => V1.loadN one_26 sz_26 rfl (RdN.whole (by repeat (first | exact Find.here | assumption | apply Find.there | apply Find.far))) (by rfl)) ?_
      refine TK.one 2 (by decide +kernel) rfl rfl (T1.callV has_20 rfl rfl (Makes_d hkna hka [] (ct := [.int .i64 kt, .string (bstr nt), .slice at_ ast.length ct_]) hct) (by repeat (first | exact Inc.nil | assumption | exact Inc.refl | exact Inc.here | apply Inc.app | apply Inc.cons (by repeat (first | exact Find.here | assumption | apply Find.there | apply Find.far)) | apply Inc.skip1 | apply Inc.skip)) (fun v_ hv => ?_))
      obtain rfl := hv
      refine ⟨(by repeat (first | exact Find.here | assumption | apply Find.there | apply Find.far)), ?_⟩
      refine TK.one 5 (by decide +kernel) rfl rfl (T1.callC has_29 rfl rfl (plain_any w0 (Tm.mk kt nt ast) [] _ hct hsh) (by repeat (first | exact Inc.nil | assumption | exact Inc.refl | exact Inc.here | apply Inc.app | apply Inc.cons (by repeat (first | exact Find.here | assumption | apply Find.there | apply Find.far)) | apply Inc.skip1 | apply Inc.skip)) (fun v_ Yp hY => ?_))
      obtain ⟨cp, rfl, hcp⟩ := hY
      refine ⟨(by repeat (first | exact Find.here | assumption | apply Find.there | apply Find.far)), ?_⟩
      refine TK.one 6 (by decide +kernel) rfl rfl (T1.callC has_28 rfl rfl (RNormal_any w0 (Tm.mk kt nt ast) (Yp ++ []) _ hcp hsh) (by repeat (first | exact Inc.nil | assumption | exact Inc.refl | exact Inc.here | apply Inc.app | apply Inc.cons (by repeat (first | exact Find.here | assumption | apply Find.there | apply Find.far)) | apply Inc.skip1 | apply Inc.skip)) (fun v_ Yn hY => ?_))
      obtain ⟨cn, rfl, hcn⟩ := hY
      refine ⟨(by repeat (first | exact Find.here | assumption | apply Find.there | apply Find.far)), ?_⟩
      refine TK.one 7 (by decide +kernel) rfl rfl (T1.callV has_30 rfl rfl (RMakes_any w0 (Yn ++ (Yp ++ (Ls ++ Y))) (kn := ts.map nrm) (n := (ts.map nrm).length) rfl (hru.more (Inc.skip (Inc.skip Inc.refl))) (hxs.more (Inc.skip (Inc.skip (Inc.skip Inc.refl)))) (hcn.more (by intro B_ hB_; simp only [List.mem_append, List.mem_cons, List.not_mem_nil, or_false, List.append_nil] at hB_ ⊢; grind)) (known_ok hcs) (known_few hcs hnp)) (by repeat (first | exact Inc.nil | assumption | exact Inc.refl | exact Inc.here | apply Inc.app | apply Inc.cons (by repeat (first | exact Find.here | assumption | apply Find.there | apply Find.far)) | apply Inc.skip1 | apply Inc.skip)) (fun v_ hv => ?_))
      obtain ⟨r, rfl, hr_⟩ := hv
      refine ⟨(by repeat (first | exact Find.here | assumption | apply Find.there | apply Find.far)), ?_⟩
      refine TK.take 8 rfl (by decide +kernel) (by decide +kernel) (by decide +kernel) rfl (fun _ _ _ h => h) (fun L_ k1_ => V1.eqB (r := true) ty_4 rfl rfl (makes_same hck hr_)) ?_
      refine TK.take 9 rfl (by decide +kernel) (by decide +kernel) (by decide +kernel) rfl (fun _ _ _ h => h) (fun L_ k1_ => V1.assign' (by (conv => lhs; whnf) <;> rfl)) ?_
      refine TD.done (by decide +kernel) ?_
      refine T.ret ?_
      exact ⟨_, G, _, .cons (.tmp (by (conv => lhs; whnf) <;> rfl)) .nil, (by repeat (first | exact Take.nil | apply Take.one (by repeat (first | exact Pick.here | apply Pick.there | apply Pick.far)) | apply Take.seg (by repeat (first | exact PickS.last | exact PickS.one | exact PickS.here | exact PickS.nil | apply PickS.there | apply PickS.far)) | exact Take.last (by repeat (first | exact PickS.last | exact PickS.one | exact PickS.here | exact PickS.nil | apply PickS.there | apply PickS.far)))), rfl, rfl⟩
  ·
    refine TL.cons rfl (V1.t (V1.not rfl rfl) ?_)
    refine TL.nil ?_
    refine T.cond_t rfl ?_
    refine T.seq ?_
    refine T.region ?_
    refine TL.cons rfl (V1.t (V1.assign' (by (conv => lhs; whnf) <;> rfl)) ?_)
    refine TL.nil ?_
    refine T.ret ?_
    exact ⟨_, G, _, .cons (.tmp (by (conv => lhs; whnf) <;> rfl)) .nil, (by repeat (first | exact Take.nil | apply Take.one (by repeat (first | exact Pick.here | apply Pick.there | apply Pick.far)) | apply Take.seg (by repeat (first | exact PickS.last | exact PickS.one | exact PickS.here | exact PickS.nil | apply PickS.there | apply PickS.far)) | exact Take.last (by repeat (first | exact PickS.last | exact PickS.one | exact PickS.here | exact PickS.nil | apply PickS.there | apply PickS.far)))), rfl, rfl⟩

end Go.Proofs.YtlpkcbkflfbclaaDoor.S
