/- Somebody's knowledge, made and asked. -/
import Derived.Test.YtlpkcbkflfbclaaDoorT11
namespace Go.Proofs.YtlpkcbkflfbclaaDoor.S
open Go.RowKit

/-- Somebody's knowledge in blocks of its own. -/
structure KnO (w0 : World) (Ps : List Blk) (kb : Nat) (l : List Tm) (Y : List Blk) : Prop where
  all : ∃ s Ls Yp vs, Y = ⟨kb, 0, [s], 1⟩ :: (Ls ++ Yp) ∧ SlG (some 26) s vs 3 Ls ∧ TmsR w0 (Yp ++ Ps) l vs
  srt : Srt l
  len : l.length ≤ 4000
  shp : ∀ x ∈ l, S.shp x = true
theorem KnO.r {w0 : World} {Ps Y : List Blk} {kb : Nat} {l : List Tm} (h : KnO w0 Ps kb l Y) : KnR w0 (Y ++ Ps) kb l := by
  obtain ⟨s, Ls, Yp, vs, rfl, h1, h2⟩ := h.all
  obtain ⟨a, c, rfl, h3⟩ := h1.tm h2
  exact ⟨⟨a, c, vs, List.mem_cons_self .., h3.more (by rw [List.cons_append, List.append_assoc]; exact Inc.skip1 Inc.refl), h2.more (by rw [List.cons_append, List.append_assoc]; exact Inc.skip1 (Inc.skip Inc.refl))⟩, by have := h.len; omega, h.srt⟩
theorem KnO.more {w0 : World} {Ps Qs Y : List Blk} {kb : Nat} {l : List Tm} (h : KnO w0 Ps kb l Y) (hi : Inc Ps Qs) : KnO w0 Qs kb l Y := by
  obtain ⟨s, Ls, Yp, vs, rfl, h1, h2⟩ := h.all
  exact ⟨⟨s, Ls, Yp, vs, rfl, h1, h2.more (Inc.app Inc.here (hi.trans (Inc.skip Inc.refl)))⟩, h.srt, h.len, h.shp⟩
theorem LearnR.srt {l ts l' : List Tm} {e : Int} (h : LearnR l ts e l') (hs : Srt l) : Srt l' := by cases h <;> assumption
theorem LearnR.len {l ts l' : List Tm} {e : Int} (h : LearnR l ts e l') (hs : l.length ≤ 4000) : l'.length ≤ 4000 := by cases h <;> assumption
theorem LearnR.shp {l ts l' : List Tm} {e : Int} (h : LearnR l ts e l') (hs : ∀ x ∈ l, S.shp x = true) : ∀ x ∈ l', S.shp x = true := by cases h <;> assumption
theorem Learn_kn (w0 : World) (Ps : List Blk) {kb : Nat} {l : List Tm} {Y : List Blk} (hk : KnO w0 Ps kb l Y) {ts : List Tm} {a : Option Addr} {c : Nat} {us : List Value} (hr : RowR w0 Ps 3 (.slice a ts.length c) ts.length us) (ht : TmsR w0 Ps ts us) (hts : ts.length ≤ 1000) :
    FnG P 26 [.pointer (some ⟨kb, 0, none⟩), .slice a ts.length c] w0 Ps Y fun v Y' => ∃ e l', v = .int .i64 e ∧ KnO w0 Ps kb l' Y' ∧ LearnR l ts e l' := by
  obtain ⟨s, Ls, Yp, vs, rfl, h1, h2⟩ := hk.all
  intro G w hG hst
  have hst2 : St w0 [] ((⟨kb, 0, [s], 1⟩ :: Ls) ++ (Yp ++ G)) w := by simpa using hst
  refine (Learn_any w0 (Yp ++ Ps) h1 h2 hk.len hk.srt hk.shp (hr.more (Inc.skip Inc.refl)) (ht.more (Inc.skip Inc.refl)) hts (Yp ++ G) w (Inc.app Inc.here (hG.trans (Inc.skip Inc.refl))) hst2).mono ?_
  rintro en w' ⟨v, Y2, rfl, hst', e, s', Ls', Y', vs', l', rfl, rfl, g1, g2, g3⟩
  refine ⟨_, ⟨kb, 0, [s'], 1⟩ :: (Ls' ++ (Y' ++ Yp)), rfl, by simpa using hst', e, l', rfl, ⟨⟨s', Ls', Y' ++ Yp, vs', rfl, g1, by rw [List.append_assoc]; exact g2⟩, g3.srt hk.srt, g3.len hk.len, g3.shp hk.shp⟩, g3⟩
theorem Makes_kn (w0 : World) (Ps : List Blk) {kb : Nat} {l : List Tm} {Y : List Blk} (hk : KnO w0 Ps kb l Y) (t : Tm) (ct : List Value) (hx : TmR w0 (Y ++ Ps) t ct) : FnV P 20 [.pointer (some ⟨kb, 0, none⟩), .agg ct.toArray] w0 (Y ++ Ps) fun v => ∃ r, v = .bool r ∧ (r = true ↔ chk t = 0 ∧ Mk (· ∈ l) (nrm t)) :=
  Makes_any w0 (Y ++ Ps) t ct hk.r hx
/-- What New hands back. -/
def NewR (w0 : World) (Ps : List Blk) (ts : List Tm) (v : Value) (Y : List Blk) : Prop :=
  (∃ e, e ≠ 0 ∧ v = .tuple #[.pointer none, .int .i64 e] ∧ Y = [] ∧ LearnR [] ts e []) ∨ (∃ kb l', v = .tuple #[.pointer (some ⟨kb, 0, none⟩), .int .i64 0] ∧ KnO w0 Ps kb l' Y ∧ LearnR [] ts 0 l')
theorem LearnR.err {l ts l' : List Tm} {e : Int} (h : LearnR l ts e l') (he : e ≠ 0) : l' = l := by
  cases h with
  | ok => exact absurd rfl he
  | bad => rfl
  | full => rfl

set_option maxRecDepth 100000 in
theorem New_any (w0 : World) (Ps : List Blk) {ts : List Tm} {a : Option Addr} {c : Nat} {us : List Value} (hr : RowR w0 Ps 3 (.slice a ts.length c) ts.length us) (ht : TmsR w0 Ps ts us) (hts : ts.length ≤ 1000) : FnG P 19 [.slice a ts.length c] w0 Ps [] (NewR w0 Ps ts) := by
  refine FnG.of 15 [.tmp 2, .tmp 3] Go.Proofs.Tryd.func19 rfl rfl rfl rfl (fun G hG => ?_)
  refine T.seq ?_
  refine T.region ?_
  refine TL.cons rfl (V1.t (V1.assign' (by (conv => lhs; whnf) <;> rfl)) ?_)
  refine TL.cons rfl (V1.t (V1.assign' (by (conv => lhs; whnf) <;> rfl)) ?_)
  refine TL.nil ?_
  refine T.seq ?_
  refine T.region ?_
  refine TL.cons rfl (V1.t (V1.build0 pl_66 zr_66) ?_)
  refine TL.cons rfl (T1.boxN 1 rfl rfl (fun kb => ?_))
  refine TL.cons rfl (V1.t (V1.assign' (by (conv => lhs; whnf) <;> rfl)) ?_)
  refine TL.nil ?_
  refine T.seq ?_
  refine T.seq ?_
  refine T.region ?_
  refine TL.cons rfl (V1.t (V1.move' (by (conv => lhs; whnf) <;> rfl)) ?_)
  refine TL.cons rfl (V1.t (V1.move' (by (conv => lhs; whnf) <;> rfl)) ?_)
  refine TL.cons rfl (T1.callM (X := [(⟨kb, 0, [.slice none 0 0], 1⟩ : Blk)]) has_26 rfl rfl (Learn_kn w0 Ps (l := []) (kb := kb) ⟨⟨_, [], [], [], rfl, SlG.nil, TmsR.nil⟩, List.Pairwise.nil, by simp, by simp⟩ hr ht hts) (by repeat (first | exact Take.nil | apply Take.one (by repeat (first | exact Pick.here | apply Pick.there | apply Pick.far)) | apply Take.seg (by repeat (first | exact PickS.last | exact PickS.one | exact PickS.here | exact PickS.nil | apply PickS.there | apply PickS.far)) | exact Take.last (by repeat (first | exact PickS.last | exact PickS.one | exact PickS.here | exact PickS.nil | apply PickS.there | apply PickS.far)))) (by repeat (first | exact Inc.nil | assumption | exact Inc.refl | exact Inc.here | apply Inc.app | apply Inc.cons (by repeat (first | exact Find.here | assumption | apply Find.there | apply Find.far)) | apply Inc.skip1 | apply Inc.skip)) (fun v_ Y_ hY => ?_))
  obtain ⟨e, l2, rfl, hkn, hln⟩ := hY
  refine TL.cons rfl (V1.t (V1.assign' (by (conv => lhs; whnf) <;> rfl)) ?_)
  refine TL.nil ?_
  refine T.seq ?_
  refine T.region ?_
  refine TL.cons rfl (V1.t (V1.move' (by (conv => lhs; whnf) <;> rfl)) ?_)
  refine TL.cons rfl (T1.neI_split rfl rfl (fun h3 => ?_) (fun h3 => ?_))
  ·
    obtain rfl := hln.err h3
    refine TL.nil ?_
    refine T.cond_t rfl ?_
    refine T.seq ?_
    refine T.region ?_
    refine TL.cons rfl (V1.t (V1.move' (by (conv => lhs; whnf) <;> rfl)) ?_)
    refine TL.cons rfl (V1.t (V1.assign' (by (conv => lhs; whnf) <;> rfl)) ?_)
    refine TL.cons rfl (V1.t (V1.assign' (by (conv => lhs; whnf) <;> rfl)) ?_)
    refine TL.nil ?_
    refine T.ret ?_
    exact ⟨_, G, _, .cons (.tmp (by (conv => lhs; whnf) <;> rfl)) (.cons (.tmp (by (conv => lhs; whnf) <;> rfl)) .nil), (by repeat (first | exact Take.nil | apply Take.one (by repeat (first | exact Pick.here | apply Pick.there | apply Pick.far)) | apply Take.seg (by repeat (first | exact PickS.last | exact PickS.one | exact PickS.here | exact PickS.nil | apply PickS.there | apply PickS.far)) | exact Take.last (by repeat (first | exact PickS.last | exact PickS.one | exact PickS.here | exact PickS.nil | apply PickS.there | apply PickS.far)))), [], rfl, .inl ⟨e, h3, rfl, rfl, hln⟩⟩
  ·
    obtain rfl : e = 0 := h3
    refine TL.nil ?_
    refine T.cond_f rfl ?_
    refine T.skip ?_
    refine T.seq ?_
    refine T.region ?_
    refine TL.cons rfl (V1.t (V1.move' (by (conv => lhs; whnf) <;> rfl)) ?_)
    refine TL.cons rfl (V1.t (V1.assign' (by (conv => lhs; whnf) <;> rfl)) ?_)
    refine TL.cons rfl (V1.t (V1.assign' (by (conv => lhs; whnf) <;> rfl)) ?_)
    refine TL.nil ?_
    refine T.ret ?_
    exact ⟨_, Y_ ++ G, _, .cons (.tmp (by (conv => lhs; whnf) <;> rfl)) (.cons (.tmp (by (conv => lhs; whnf) <;> rfl)) .nil), (by repeat (first | exact Take.nil | apply Take.one (by repeat (first | exact Pick.here | apply Pick.there | apply Pick.far)) | apply Take.seg (by repeat (first | exact PickS.last | exact PickS.one | exact PickS.here | exact PickS.nil | apply PickS.there | apply PickS.far)) | exact Take.last (by repeat (first | exact PickS.last | exact PickS.one | exact PickS.here | exact PickS.nil | apply PickS.there | apply PickS.far)))), Y_, rfl, .inr ⟨kb, l2, rfl, hkn, hln⟩⟩

set_option maxRecDepth 100000 in
theorem Terms_any (w0 : World) (Ps : List Blk) {kb : Nat} {l : List Tm} (hk : KnR w0 Ps kb l) : FnG P 25 [.pointer (some ⟨kb, 0, none⟩)] w0 Ps [] (fun v Y => ∃ a c vs, v = .slice a l.length c ∧ SlG (some 26) v vs 3 Y ∧ TmsR w0 Ps l vs) := by
  obtain ⟨aK, cK, vsK, hbK, hrK, hlK⟩ := hk.all
  refine FnG.of 8 [.tmp 2] Go.Proofs.Tryd.func25 rfl rfl rfl rfl (fun G hG => ?_)
  have hKF : Find G ⟨kb, 0, [.slice aK l.length cK], 1⟩ := hG.find hbK
  refine T.seq ?_
  refine T.region ?_
  refine TL.cons rfl (V1.t (V1.assign' (by (conv => lhs; whnf) <;> rfl)) ?_)
  refine TL.nil ?_
  refine T.seq ?_
  refine T.region ?_
  refine TL.cons rfl (V1.t (V1.move' (by (conv => lhs; whnf) <;> rfl)) ?_)
  refine TL.cons rfl (V1.t (V1.nilCheck rfl) ?_)
  refine TL.cons rfl (V1.t (V1.fieldAddr fl_66_0 rfl) ?_)
  refine TL.cons rfl (V1.t (V1.load1 (v := .slice aK l.length cK) one_64 rfl (.own (off := 0) (size := 1) (cells := [.slice aK l.length cK]) (by repeat (first | exact Find.here | assumption | apply Find.there | apply Find.far)) (by rfl))) ?_)
  refine TL.cons rfl (T1.callC has_48 rfl rfl (Clone_any w0 Ps hrK hlK (by have := hk.len; omega)) (by repeat (first | exact Inc.nil | assumption | exact Inc.refl | exact Inc.here | apply Inc.app | apply Inc.cons (by repeat (first | exact Find.here | assumption | apply Find.there | apply Find.far)) | apply Inc.skip1 | apply Inc.skip)) (fun v_ Yc hY => ?_))
  obtain ⟨ac, cc, rfl, hrowc⟩ := SlG.tm hY hlK
  refine TL.cons rfl (V1.t (V1.assign' (by (conv => lhs; whnf) <;> rfl)) ?_)
  refine TL.nil ?_
  refine T.ret ?_
  exact ⟨_, Yc ++ G, _, .cons (.tmp (by (conv => lhs; whnf) <;> rfl)) .nil, (by repeat (first | exact Take.nil | apply Take.one (by repeat (first | exact Pick.here | apply Pick.there | apply Pick.far)) | apply Take.seg (by repeat (first | exact PickS.last | exact PickS.one | exact PickS.here | exact PickS.nil | apply PickS.there | apply PickS.far)) | exact Take.last (by repeat (first | exact PickS.last | exact PickS.one | exact PickS.here | exact PickS.nil | apply PickS.there | apply PickS.far)))), Yc, rfl, ac, cc, vsK, rfl, hY, hlK⟩

/-- Terms one behind the other. -/
def pairs : List Tm → Tm
  | [] => .mk 1 [110, 111, 116, 104, 105, 110, 103] []
  | [a] => a
  | a :: b :: l => .mk 2 [] [a, pairs (b :: l)]
theorem pairs_drop {ts : List Tm} {i : Nat} {x : Tm} (hx : ts[i]? = some x) (hi : i + 1 < ts.length) : pairs (ts.drop i) = .mk 2 [] [x, pairs (ts.drop (i + 1))] := by
  have h1 := List.drop_eq_getElem_cons (show i < ts.length by omega)
  have h2 := List.drop_eq_getElem_cons hi
  rw [List.getElem?_eq_getElem (by omega)] at hx
  rw [h1, h2, pairs, ← h2, Option.some.inj hx]
theorem pairs_last {ts : List Tm} {i : Nat} {x : Tm} (hx : ts[i]? = some x) (hi : i + 1 = ts.length) : pairs (ts.drop i) = x := by
  have h1 := List.drop_eq_getElem_cons (show i < ts.length by omega)
  rw [List.getElem?_eq_getElem (by omega)] at hx
  rw [h1, List.drop_of_length_le (by omega), pairs, Option.some.inj hx]

set_option maxRecDepth 100000 in
theorem Pairs_any (w0 : World) (Ps : List Blk) {ts : List Tm} {a : Option Addr} {c : Nat} {vs : List Value} (hr : RowR w0 Ps 3 (.slice a ts.length c) ts.length vs) (ht : TmsR w0 Ps ts vs) (hl : ts.length ≤ maxN) : FnG P 31 [.slice a ts.length c] w0 Ps [] (fun v Y => ∃ cy, v = .agg cy.toArray ∧ TmR w0 (Y ++ Ps) (pairs ts) cy) := by
  unfold maxN at hl
  refine FnG.of 30 [.cell 2 26] Go.Proofs.Tryd.func31 rfl rfl rfl rfl (fun G hG => ?_)
  refine T.seq ?_
  refine T.region ?_
  refine TL.cons rfl (T1.allocN 3 zr_26 rfl (fun b2 => ?_))
  refine TL.nil ?_
  refine T.seq ?_
  refine T.seq ?_
  refine T.region ?_
  refine TL.cons rfl (V1.t (V1.move' (by (conv => lhs; whnf) <;> rfl)) ?_)
  refine TL.cons rfl (V1.t (V1.lenSl ty_23 rfl) ?_)
  refine TL.cons rfl (T1.eqI_split rfl rfl (fun h1 => ?_) (fun h1 => ?_))
  ·
    obtain rfl : ts = [] := List.length_eq_zero_iff.1 (by omega)
    refine TL.nil ?_
    refine T.cond_t rfl ?_
    refine T.seq ?_
    refine T.region ?_
    refine TL.cons rfl (T1.callV has_12 rfl rfl (Of_any w0 Ps [110, 111, 116, 104, 105, 110, 103]) (by repeat (first | exact Inc.nil | assumption | exact Inc.refl | exact Inc.here | apply Inc.app | apply Inc.cons (by repeat (first | exact Find.here | assumption | apply Find.there | apply Find.far)) | apply Inc.skip1 | apply Inc.skip)) (fun v_ hv => ?_))
    obtain rfl := hv
    refine TL.cons rfl (T1.storeN rfl rfl sz_26 (ones rfl) (by repeat (first | exact Sub.one | apply Sub.there | apply Sub.far)) (by rfl) (by rfl) ?_)
    refine TL.nil ?_
    refine T.ret ?_
    exact ⟨_, G, _, .cons (.cellN (by (conv => lhs; whnf) <;> rfl) one_26 sz_26 (RdN.whole (by repeat (first | exact Find.here | assumption | apply Find.there | apply Find.far))) (by rfl)) .nil, (by repeat (first | exact Take.nil | apply Take.one (by repeat (first | exact Pick.here | apply Pick.there | apply Pick.far)) | apply Take.seg (by repeat (first | exact PickS.last | exact PickS.one | exact PickS.here | exact PickS.nil | apply PickS.there | apply PickS.far)) | exact Take.last (by repeat (first | exact PickS.last | exact PickS.one | exact PickS.here | exact PickS.nil | apply PickS.there | apply PickS.far)))), [], rfl, _, rfl, TmR.atom⟩
  ·
    obtain ⟨x, hx0⟩ : ∃ x, ts[ts.length - 1]? = some x := ⟨_, List.getElem?_eq_getElem (by omega)⟩
    obtain ⟨bx, ox, cs_, rfl, hx, hrdx⟩ := hr.term ht hx0 P
    obtain ⟨kx, nx, asx⟩ := x
    obtain ⟨ax, cx, vsx, rfl, hrx, hlx, htx⟩ := hx.inv
    try simp only at *
    have hps := pairs_last hx0 (by omega)
    refine TL.nil ?_
    refine T.cond_f rfl ?_
    refine T.skip ?_
    refine T.seq ?_
    refine T.region ?_
    refine TL.cons rfl (V1.t (V1.move' (by (conv => lhs; whnf) <;> rfl)) ?_)
    refine TL.cons rfl (V1.t (V1.move' (by (conv => lhs; whnf) <;> rfl)) ?_)
    refine TL.cons rfl (V1.t (V1.lenSl ty_23 rfl) ?_)
    refine TL.cons rfl (V1.t (V1.sub (c := ((ts.length - 1 : Nat) : Int)) rfl rfl (by rw [wrap_i64 _ (by omega) (by omega)]; omega)) ?_)
    refine TL.cons rfl (V1.t (V1.indexAddrS ty_23 sz_26 rfl rfl (by omega) (by omega)) ?_)
    refine TL.cons rfl (V1.t (V1.loadN (vs := [.int .i64 kx, .string (bstr nx), .slice ax asx.length cx]) one_26 sz_26 rfl (hrdx _ rfl rfl _ (by repeat (first | exact Inc.nil | assumption | exact Inc.refl | exact Inc.here | apply Inc.app | apply Inc.cons (by repeat (first | exact Find.here | assumption | apply Find.there | apply Find.far)) | apply Inc.skip1 | apply Inc.skip))) rfl) ?_)
    refine TL.cons rfl (T1.allocN 3 zr_26 rfl (fun b3 => ?_))
    refine TL.cons rfl (T1.storeN rfl rfl sz_26 (ones rfl) (by repeat (first | exact Sub.one | apply Sub.there | apply Sub.far)) (by rfl) (by rfl) ?_)
    refine TL.nil ?_
    refine T.seq ?_
    refine T.seq ?_
    refine T.region ?_
    refine TL.cons rfl (V1.t (V1.move' (by (conv => lhs; whnf) <;> rfl)) ?_)
    refine TL.cons rfl (V1.t (V1.lenSl ty_23 rfl) ?_)
    refine TL.cons rfl (V1.t (V1.sub (c := ((ts.length : Nat) : Int) - 2) rfl rfl (by rw [wrap_i64 _ (by omega) (by omega)])) ?_)
    refine TL.cons rfl (V1.t (V1.assign' (by (conv => lhs; whnf) <;> rfl)) ?_)
    refine TL.nil ?_
    refine T.block ?_
    refine T.loopL (σ := Nat) (l0 := [(0, _), (2, _), (3, _)]) (fun x => [(4, .int .i64 ((x : Nat) - 1 : Int))]) (fun i L => ∃ co_ Y, L = ⟨b2, 0, [.int .i64 0, .string ⟨#[]⟩, .slice none 0 0], 3⟩ :: ⟨b3, 0, co_, 3⟩ :: (Y ++ G) ∧ i + 1 ≤ ts.length ∧ TmR w0 (Y ++ Ps) (pairs (ts.drop i)) co_) (fun i => i) (ts.length - 1) (.cons (by show Value.int .i64 _ = Value.int .i64 _; congr 1; omega) .nil) (.cons (by (conv => lhs; whnf) <;> rfl) (.cons (by (conv => lhs; whnf) <;> rfl) (.cons (by (conv => lhs; whnf) <;> rfl) .nil))) (by repeat (first | exact Take.nil | apply Take.one (by repeat (first | exact Pick.here | apply Pick.there | apply Pick.far)) | apply Take.seg (by repeat (first | exact PickS.last | exact PickS.one | exact PickS.here | exact PickS.nil | apply PickS.there | apply PickS.far)) | exact Take.last (by repeat (first | exact PickS.last | exact PickS.one | exact PickS.here | exact PickS.nil | apply PickS.there | apply PickS.far)))) (⟨_, [], rfl, by omega, by rw [hps]; exact hx⟩) ?_
    rintro i e_ L ⟨co_, Y, rfl, hi, hco⟩
    generalize hpo : pairs (ts.drop i) = po at hco
    obtain ⟨ko, no, tso⟩ := po
    obtain ⟨ao, co, vso, rfl, hro, hlo, hto⟩ := hco.inv
    refine T.seq ?_
    refine T.seq ?_
    refine T.region ?_
    refine TL.cons rfl (V1.t (V1.move' (by (conv => lhs; whnf) <;> rfl)) ?_)
    refine TL.cons rfl (T1.geI_split rfl rfl (fun h5 => ?_) (fun h5 => ?_))
    ·
      obtain ⟨x, hx0⟩ : ∃ x, ts[i - 1]? = some x := ⟨_, List.getElem?_eq_getElem (by omega)⟩
      obtain ⟨b2_, o2_, cs_, he_, hx, hrdx⟩ := hr.term ht hx0 P
      cases he_
      obtain ⟨kx, nx, asx⟩ := x
      obtain ⟨ax, cx, vsx, rfl, hrx, hlx, htx⟩ := hx.inv
      try simp only at *
      refine TL.nil ?_
      refine T.cond_t rfl ?_
      refine T.skip ?_
      refine T.seq ?_
      refine T.block ?_
      refine T.drawTail 5 mixed (by decide +kernel) (by rfl) (by decide +kernel) rfl ?_
      refine Det.cons 0 (ins := [(0, _)]) (.old (by (conv => lhs; whnf) <;> rfl) (by decide +kernel) .nil) (fun e_ => .inl ⟨rfl, V1.t (V1.move' (by (conv => lhs; whnf) <;> rfl)) ⟨rfl, rfl⟩⟩) ?_
      refine Det.cons 1 (ins := [(4, _)]) (.old (by (conv => lhs; whnf) <;> rfl) (by decide +kernel) .nil) (fun e_ => .inl ⟨rfl, V1.t (V1.move' (by (conv => lhs; whnf) <;> rfl)) ⟨rfl, rfl⟩⟩) ?_
      refine Det.cons 2 (ins := [(22, _), (23, _)]) (.new 0 1 (by decide +kernel) rfl rfl (.new 1 0 (by decide +kernel) rfl rfl .nil)) (fun e_ => .inl ⟨rfl, V1.t (V1.indexAddrS (i := ((i - 1 : Nat) : Int)) ty_23 sz_26 rfl (by show Value.int .i64 _ = Value.int .i64 _; congr 1; omega) (by omega) (by omega)) ⟨rfl, rfl⟩⟩) ?_
      refine Det.cons 3 (ins := [(24, _)]) (.new 2 0 (by decide +kernel) rfl rfl .nil) (fun e_ => .inl ⟨rfl, V1.t (V1.loadN (vs := [.int .i64 kx, .string (bstr nx), .slice ax asx.length cx]) one_26 sz_26 rfl (hrdx _ rfl rfl _ (by repeat (first | exact Inc.nil | assumption | exact Inc.refl | exact Inc.here | apply Inc.app | apply Inc.cons (by repeat (first | exact Find.here | assumption | apply Find.there | apply Find.far)) | apply Inc.skip1 | apply Inc.skip))) rfl) ⟨rfl, rfl⟩⟩) ?_
      refine Det.cons 4 (ins := [(3, _)]) (.old (by (conv => lhs; whnf) <;> rfl) (by decide +kernel) .nil) (fun e_ => .inl ⟨rfl, V1.t (V1.loadN one_26 sz_26 rfl (RdN.whole (by repeat (first | exact Find.here | assumption | apply Find.there | apply Find.far))) (by rfl)) ⟨rfl, rfl⟩⟩) ?_
      refine Det.nil 5 (l := [(0, _), (2, _), (3, _), (4, _), (25, _), (26, _)]) (.old (by (conv => lhs; whnf) <;> rfl) (by decide +kernel) (.old (by (conv => lhs; whnf) <;> rfl) (by decide +kernel) (.old (by (conv => lhs; whnf) <;> rfl) (by decide +kernel) (.old (by (conv => lhs; whnf) <;> rfl) (by decide +kernel) (.new 3 1 (by decide +kernel) rfl rfl (.new 4 0 (by decide +kernel) rfl rfl .nil)))))) (fun e_ => ?_)
      refine (show TU _ _ _ 3 _ _ _ from ?_)
      refine TU.one 5 (by decide +kernel) rfl rfl (T1.buildTwo ty_23 sz_26 zr_26 (by decide) (by (conv => lhs; whnf) <;> rfl) (by (conv => lhs; whnf) <;> rfl) (by rfl) (by rfl) (fun b27 => ?_))
      refine TU.one 6 (by decide +kernel) rfl rfl (V1.t (V1.buildF pl_26 zr_26 (.one rfl (by (conv => lhs; whnf) <;> rfl) rfl (.one rfl (by (conv => lhs; whnf) <;> rfl) rfl .nil)) (by repeat (first | exact FillL.nil | exact SetN.done | apply SetN.here | apply SetN.there | apply FillL.cons))) ?_)
      refine TU.one 7 (by decide +kernel) rfl rfl (T1.storeN rfl rfl sz_26 (ones rfl) (by repeat (first | exact Sub.one | apply Sub.there | apply Sub.far)) (by rfl) (by rfl) ?_)
      refine TU.done (by decide +kernel) ?_
      refine T.region ?_
      refine TL.cons rfl (V1.t (V1.move' (by (conv => lhs; whnf) <;> rfl)) ?_)
      refine TL.cons rfl (V1.t (V1.sub (c := ((i - 1 : Nat) : Int) - 1) rfl rfl (by rw [wrap_i64 _ (by omega) (by omega)]; omega)) ?_)
      refine TL.cons rfl (V1.t (V1.assign' (by (conv => lhs; whnf) <;> rfl)) ?_)
      refine TL.nil ?_
      exact ⟨(i - 1), ⟨b2, 0, [.int .i64 0, .string ⟨#[]⟩, .slice none 0 0], 3⟩ :: ⟨b3, 0, _, 3⟩ :: (⟨⟨b27, some 26⟩, 0, [.int .i64 kx, .string (bstr nx), .slice ax asx.length cx] ++ [.int .i64 ko, .string (bstr no), .slice ao tso.length co], 2 * 3⟩ :: (Y ++ G)), _, (by simp only; omega), (.cons rfl .nil), (.cons rfl (.cons rfl (.cons rfl .nil))), (by repeat (first | exact Take.nil | apply Take.one (by repeat (first | exact Pick.here | apply Pick.there | apply Pick.far)) | apply Take.seg (by repeat (first | exact PickS.last | exact PickS.one | exact PickS.here | exact PickS.nil | apply PickS.there | apply PickS.far)) | exact Take.last (by repeat (first | exact PickS.last | exact PickS.one | exact PickS.here | exact PickS.nil | apply PickS.there | apply PickS.far)))), ⟨_, ⟨⟨b27, some 26⟩, 0, [.int .i64 kx, .string (bstr nx), .slice ax asx.length cx] ++ [.int .i64 ko, .string (bstr no), .slice ao tso.length co], 2 * 3⟩ :: Y, rfl, by omega, by rw [pairs_drop hx0 (by omega), show i - 1 + 1 = i by omega, hpo]; exact TmR.mkN (n := 2) rfl (RowR.own (List.mem_cons_self ..) rfl) (by decide) (TmsR.cons (hx.more (Inc.skip1 (Inc.skip Inc.refl))) (TmsR.one (hco.more (Inc.skip1 Inc.refl))))⟩⟩
    ·
      obtain rfl : i = 0 := by omega
      rw [List.drop_zero] at hpo
      refine TL.nil ?_
      refine T.cond_f rfl ?_
      refine T.exit ?_
      refine T.seq ?_
      refine T.region ?_
      refine TL.cons rfl (V1.t (V1.loadN one_26 sz_26 rfl (RdN.whole (by repeat (first | exact Find.here | assumption | apply Find.there | apply Find.far))) (by rfl)) ?_)
      refine TL.cons rfl (T1.storeN rfl rfl sz_26 (ones rfl) (by repeat (first | exact Sub.one | apply Sub.there | apply Sub.far)) (by rfl) (by rfl) ?_)
      refine TL.nil ?_
      refine T.ret ?_
      rw [hpo]
      exact ⟨_, Y ++ G, _, .cons (.cellN (by (conv => lhs; whnf) <;> rfl) one_26 sz_26 (RdN.whole (by repeat (first | exact Find.here | assumption | apply Find.there | apply Find.far))) (by rfl)) .nil, (by repeat (first | exact Take.nil | apply Take.one (by repeat (first | exact Pick.here | apply Pick.there | apply Pick.far)) | apply Take.seg (by repeat (first | exact PickS.last | exact PickS.one | exact PickS.here | exact PickS.nil | apply PickS.there | apply PickS.far)) | exact Take.last (by repeat (first | exact PickS.last | exact PickS.one | exact PickS.here | exact PickS.nil | apply PickS.there | apply PickS.far)))), Y, rfl, _, rfl, hco⟩

end Go.Proofs.YtlpkcbkflfbclaaDoor.S
