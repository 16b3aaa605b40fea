/- Somebody's knowledge, made and asked. -/
import Derived.Test.YtlpkcbkflfbclaaGreatDoorT11
namespace Go.Proofs.YtlpkcbkflfbclaaGreatDoor.S
open Go.RowKit

/-- Somebody's knowledge in blocks of its own. -/
structure KnO (w0 : World) (Ps : List Blk) (kb : Nat) (l : List Tm) (Y : List Blk) : Prop where
  all : ∃ s Ls Yp vs, Y = ⟨kb, 0, [s], 1⟩ :: (Ls ++ Yp) ∧ SlG (some 24) s vs 3 Ls ∧ TmsR w0 (Yp ++ Ps) l vs
  srt : Srt l
  len : l.length ≤ 4000
  shp : ∀ x ∈ l, S.shp x = true
theorem KnO.r {w0 : World} {Ps Y : List Blk} {kb : Nat} {l : List Tm} (h : KnO w0 Ps kb l Y) : KnR w0 (Y ++ Ps) kb l := by
  obtain ⟨s, Ls, Yp, vs, rfl, h1, h2⟩ := h.all
  obtain ⟨a, c, rfl, h3⟩ := h1.tm h2
  exact ⟨⟨a, c, vs, List.mem_cons_self .., h3.more (by rw [List.cons_append, List.append_assoc]; exact Inc.skip1 Inc.refl), h2.more (by rw [List.cons_append, List.append_assoc]; exact Inc.skip1 (Inc.skip Inc.refl))⟩, by have := h.len; omega, h.srt⟩
theorem KnO.more {w0 : World} {Ps Qs Y : List Blk} {kb : Nat} {l : List Tm} (h : KnO w0 Ps kb l Y) (hi : Inc Ps Qs) : KnO w0 Qs kb l Y := by
  obtain ⟨s, Ls, Yp, vs, rfl, h1, h2⟩ := h.all
  exact ⟨⟨s, Ls, Yp, vs, rfl, h1, h2.more (Inc.app Inc.here (hi.trans (Inc.skip Inc.refl)))⟩, h.srt, h.len, h.shp⟩
theorem LearnR.srt {l ts l' : List Tm} {e : Int} (h : LearnR l ts e l') (hs : Srt l) : Srt l' := by cases h <;> assumption
theorem LearnR.len {l ts l' : List Tm} {e : Int} (h : LearnR l ts e l') (hs : l.length ≤ 4000) : l'.length ≤ 4000 := by cases h <;> assumption
theorem LearnR.shp {l ts l' : List Tm} {e : Int} (h : LearnR l ts e l') (hs : ∀ x ∈ l, S.shp x = true) : ∀ x ∈ l', S.shp x = true := by cases h <;> assumption
theorem Learn_kn (w0 : World) (Ps : List Blk) {kb : Nat} {l : List Tm} {Y : List Blk} (hk : KnO w0 Ps kb l Y) {ts : List Tm} {a : Option Addr} {c : Nat} {us : List Value} (hr : RowR w0 Ps 3 (.slice a ts.length c) ts.length us) (ht : TmsR w0 Ps ts us) (hts : ts.length ≤ 1000) :
    FnG P 60 [.pointer (some ⟨kb, 0, none⟩), .slice a ts.length c] w0 Ps Y fun v Y' => ∃ e l', v = .int .i64 e ∧ KnO w0 Ps kb l' Y' ∧ LearnR l ts e l' := by
  obtain ⟨s, Ls, Yp, vs, rfl, h1, h2⟩ := hk.all
  intro G w hG hst
  have hst2 : St w0 [] ((⟨kb, 0, [s], 1⟩ :: Ls) ++ (Yp ++ G)) w := by simpa using hst
  refine (Learn_any w0 (Yp ++ Ps) h1 h2 hk.len hk.srt hk.shp (hr.more (Inc.skip Inc.refl)) (ht.more (Inc.skip Inc.refl)) hts (Yp ++ G) w (Inc.app Inc.here (hG.trans (Inc.skip Inc.refl))) hst2).mono ?_
  rintro en w' ⟨v, Y2, rfl, hst', e, s', Ls', Y', vs', l', rfl, rfl, g1, g2, g3⟩
  refine ⟨_, ⟨kb, 0, [s'], 1⟩ :: (Ls' ++ (Y' ++ Yp)), rfl, by simpa using hst', e, l', rfl, ⟨⟨s', Ls', Y' ++ Yp, vs', rfl, g1, by rw [List.append_assoc]; exact g2⟩, g3.srt hk.srt, g3.len hk.len, g3.shp hk.shp⟩, g3⟩
theorem Makes_kn (w0 : World) (Ps : List Blk) {kb : Nat} {l : List Tm} {Y : List Blk} (hk : KnO w0 Ps kb l Y) (t : Tm) (ct : List Value) (hx : TmR w0 (Y ++ Ps) t ct) : FnV P 28 [.pointer (some ⟨kb, 0, none⟩), .agg ct.toArray] w0 (Y ++ Ps) fun v => ∃ r, v = .bool r ∧ (r = true ↔ chk t = 0 ∧ Mk (· ∈ l) (nrm t)) :=
  Makes_any w0 (Y ++ Ps) t ct hk.r hx
/-- What New hands back. -/
def NewR (w0 : World) (Ps : List Blk) (ts : List Tm) (v : Value) (Y : List Blk) : Prop :=
  (∃ e, e ≠ 0 ∧ v = .tuple #[.pointer none, .int .i64 e] ∧ Y = [] ∧ LearnR [] ts e []) ∨ (∃ kb l', v = .tuple #[.pointer (some ⟨kb, 0, none⟩), .int .i64 0] ∧ KnO w0 Ps kb l' Y ∧ LearnR [] ts 0 l')
theorem LearnR.err {l ts l' : List Tm} {e : Int} (h : LearnR l ts e l') (he : e ≠ 0) : l' = l := by
  cases h with
  | ok => exact absurd rfl he
  | bad => rfl
  | full => rfl

set_option maxRecDepth 100000 in
theorem New_any (w0 : World) (Ps : List Blk) {ts : List Tm} {a : Option Addr} {c : Nat} {us : List Value} (hr : RowR w0 Ps 3 (.slice a ts.length c) ts.length us) (ht : TmsR w0 Ps ts us) (hts : ts.length ≤ 1000) : FnG P 27 [.slice a ts.length c] w0 Ps [] (NewR w0 Ps ts) := by
  refine FnG.of 15 [.tmp 2, .tmp 3] Go.Proofs.Tryz.func27 rfl rfl rfl rfl (fun G hG => ?_)
  refine T.seq ?_
  refine T.region ?_
  refine TL.cons rfl (V1.t (V1.assign' z_C) ?_)
  refine TL.cons rfl (V1.t (V1.assign' z_C) ?_)
  refine TL.nil ?_
  refine T.seq ?_
  refine T.region ?_
  refine TL.cons rfl (V1.t (V1.build0 pl_108 zr_108) ?_)
  refine TL.cons rfl (T1.boxN 1 rfl rfl (fun kb => ?_))
  refine TL.cons rfl (V1.t (V1.assign' z_C) ?_)
  refine TL.nil ?_
  refine T.seq ?_
  refine T.seq ?_
  refine T.region ?_
  refine TL.cons rfl (V1.t (V1.move' z_C) ?_)
  refine TL.cons rfl (V1.t (V1.move' z_C) ?_)
  refine TL.cons rfl (T1.callM (X := [(⟨kb, 0, [.slice none 0 0], 1⟩ : Blk)]) has_60 rfl rfl (Learn_kn w0 Ps (l := []) (kb := kb) ⟨⟨_, [], [], [], rfl, SlG.nil, TmsR.nil⟩, List.Pairwise.nil, by simp, by simp⟩ hr ht hts) z_A z_B (fun v_ Y_ hY => ?_))
  obtain ⟨e, l2, rfl, hkn, hln⟩ := hY
  refine TL.cons rfl (V1.t (V1.assign' z_C) ?_)
  refine TL.nil ?_
  refine T.seq ?_
  refine T.region ?_
  refine TL.cons rfl (V1.t (V1.move' z_C) ?_)
  refine TL.cons rfl (T1.neI_split rfl rfl (fun h3 => ?_) (fun h3 => ?_))
  ·
    obtain rfl := hln.err h3
    refine TL.nil ?_
    refine T.cond_t rfl ?_
    refine T.seq ?_
    refine T.region ?_
    refine TL.cons rfl (V1.t (V1.move' z_C) ?_)
    refine TL.cons rfl (V1.t (V1.assign' z_C) ?_)
    refine TL.cons rfl (V1.t (V1.assign' z_C) ?_)
    refine TL.nil ?_
    refine T.ret ?_
    exact ⟨_, G, _, .cons (.tmp z_C) (.cons (.tmp z_C) .nil), z_A, [], rfl, .inl ⟨e, h3, rfl, rfl, hln⟩⟩
  ·
    obtain rfl : e = 0 := h3
    refine TL.nil ?_
    refine T.cond_f rfl ?_
    refine T.skip ?_
    refine T.seq ?_
    refine T.region ?_
    refine TL.cons rfl (V1.t (V1.move' z_C) ?_)
    refine TL.cons rfl (V1.t (V1.assign' z_C) ?_)
    refine TL.cons rfl (V1.t (V1.assign' z_C) ?_)
    refine TL.nil ?_
    refine T.ret ?_
    exact ⟨_, Y_ ++ G, _, .cons (.tmp z_C) (.cons (.tmp z_C) .nil), z_A, Y_, rfl, .inr ⟨kb, l2, rfl, hkn, hln⟩⟩

end Go.Proofs.YtlpkcbkflfbclaaGreatDoor.S
