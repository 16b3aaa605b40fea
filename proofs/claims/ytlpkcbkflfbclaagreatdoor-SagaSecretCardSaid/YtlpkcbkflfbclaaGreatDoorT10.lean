/- What is known, taken apart; terms that are learnt. -/
import Derived.Test.YtlpkcbkflfbclaaGreatDoorT9
import Derived.Test.YtlpkcbkflfbclaaGreatDoorTmSpec
namespace Go.Proofs.YtlpkcbkflfbclaaGreatDoor.S
open Go.RowKit

set_option maxRecDepth 100000 in
set_option maxHeartbeats 4000000 in
theorem apart_any (w0 : World) (Ps : List Blk) {kb : Nat} {s0 : Value} {Ls0 : List Blk} {l : List Tm} {vs0 : List Value} (hsl0 : SlG (some 24) s0 vs0 3 Ls0) (hl0 : TmsR w0 Ps l vs0) (hn : l.length ≤ 20000) (hs : Srt l) (hsh : ∀ x ∈ l, shp x = true) : FnG P 89 [.pointer (some ⟨kb, 0, none⟩)] w0 Ps ((⟨kb, 0, [s0], 1⟩ : Blk) :: Ls0) (fun v Y => ∃ more s' Ls' vs' l', v = .bool more ∧ Y = (⟨kb, 0, [s'], 1⟩ : Blk) :: Ls' ∧ SlG (some 24) s' vs' 3 Ls' ∧ TmsR w0 Ps l' vs' ∧ ApInv l l.length l' more) := by
  obtain ⟨a0, c0, rfl, hrow0⟩ := hsl0.tm hl0
  refine FnG.of 89 [.tmp 2] Go.Proofs.Tryz.func89 rfl rfl rfl rfl (fun G hG => ?_)
  simp only [List.cons_append]
  refine T.seq ?_
  refine T.region ?_
  refine TL.cons rfl (V1.t (V1.assign' z_C) ?_)
  refine TL.nil ?_
  refine T.seq ?_
  refine T.region ?_
  refine TL.cons rfl (V1.t (V1.assign' z_C) ?_)
  refine TL.nil ?_
  refine T.seq ?_
  refine T.seq ?_
  refine T.region ?_
  refine TL.cons rfl (V1.t (V1.move' z_C) ?_)
  refine TL.cons rfl (V1.t (V1.nilCheck rfl) ?_)
  refine TL.cons rfl (V1.t (V1.fieldAddr fl_108_0 rfl) ?_)
  refine TL.cons rfl (V1.t (V1.load1 one_106 rfl (.own z_D (by rfl))) ?_)
  refine TL.cons rfl (T1.callC has_87 rfl rfl (Clone_any w0 (Ls0 ++ Ps) hrow0 (hl0.more (Inc.skip Inc.refl)) (by omega)) z_B (fun v_ Yc hY => ?_))
  have hslc : SlG (some 24) v_ vs0 3 Yc := hY
  obtain ⟨ac, cc, rfl, hrowc⟩ := hslc.tm hl0
  refine TL.cons rfl (V1.t (V1.lenSl ty_106 rfl) ?_)
  refine TL.cons rfl (V1.t (V1.move' z_C) ?_)
  refine TL.nil ?_
  refine T.block ?_
  refine T.loopL (σ := Nat × Bool) (l0 := [(0, _), (11, _), (12, _)]) (fun x => [(13, .int .i64 (x.1 : Nat)), (3, .bool x.2)]) (fun x L => ∃ s Ls vs li, L = (⟨kb, 0, [s], 1⟩ : Blk) :: (Ls ++ (Yc ++ G)) ∧ x.1 ≤ l.length ∧ SlG (some 24) s vs 3 Ls ∧ TmsR w0 Ps li vs ∧ ApInv l x.1 li x.2) (fun x => l.length - x.1) (0, false) (.cons rfl (.cons rfl .nil)) (.cons z_C (.cons z_C (.cons z_C .nil))) z_A (⟨_, Ls0, vs0, l, rfl, Nat.zero_le _, hsl0, hl0, .start hs⟩) ?_
  rintro ⟨i, more⟩ e_ L ⟨s, Ls, vs, li, rfl, hi, hsl, hli, hap⟩
  simp only at hi hap
  obtain ⟨a, c, rfl, hrow⟩ := hsl.tm hli
  have hlen := hap.len
  refine T.seq ?_
  refine T.region ?_
  refine TL.cons rfl (T1.ltI_split rfl rfl (fun h3 => ?_) (fun h3 => ?_))
  ·
    try simp only at h3
    obtain ⟨x, hx0⟩ : ∃ x, l[i]? = some x := ⟨_, List.getElem?_eq_getElem (by omega)⟩
    have hsx := hsh x (List.mem_of_getElem? hx0)
    obtain ⟨bx, ox, cs_, rfl, hx, hrdx⟩ := hrowc.term hl0 hx0 P
    obtain ⟨kx, nx, asx⟩ := x
    obtain ⟨ax, cx, vsx, rfl, hrx, hlx, htx⟩ := hx.inv
    try simp only at *
    refine TL.nil ?_
    refine T.seq ?_
    refine T.cond_t rfl ?_
    refine T.skip ?_
    refine T.seq ?_
    refine T.block ?_
    refine T.seq ?_
    refine T.region ?_
    refine TL.cons rfl (V1.t (V1.indexAddrS ty_106 sz_24 rfl rfl (by omega) (by omega)) ?_)
    refine TL.cons rfl (V1.t (V1.loadN (vs := [.int .i64 kx, .string (bstr nx), .slice ax asx.length cx]) one_24 sz_24 rfl (hrdx _ rfl rfl _ z_B) rfl) ?_)
    refine TL.cons rfl (T1.allocN 3 zr_24 rfl (fun b5 => ?_))
    refine TL.cons rfl (T1.storeN rfl rfl sz_24 (ones rfl) z_G (by rfl) (by rfl) ?_)
    refine TL.nil ?_
    refine T.seq ?_
    refine T.region ?_
    refine TL.cons rfl (V1.t (V1.fieldAddr fl_24_0 rfl) ?_)
    refine TL.cons rfl (V1.t (V1.load1 one_3 rfl (.own z_D (by rfl))) ?_)
    refine TL.nil ?_
    refine T.block ?_
    refine T.seq ?_
    refine T.region ?_
    refine TL.cons rfl (T1.eqI_split rfl rfl (fun h6 => ?_) (fun h6 => ?_))
    ·
      subst h6
      obtain ⟨hlen2, rfl⟩ := headOk_two (shp_mk.1 hsx).1 (by decide)
      obtain ⟨p, q, rfl⟩ : ∃ p q, asx = [p, q] := by match asx, hlen2 with | [p, q], _ => exact ⟨p, q, rfl⟩
      obtain ⟨bp, op_, csp, rfl, hp, hrdp⟩ := hrx.term (i := 0) (x := p) htx rfl P
      obtain ⟨bq, oq_, csq, hbq, hq, hrdq⟩ := hrx.term (i := 1) (x := q) htx rfl P
      cases hbq
      have hshp := (shp_mk.1 hsx).2 p (by simp)
      have hshq := (shp_mk.1 hsx).2 q (by simp)
      obtain ⟨kp, np, asp⟩ := p
      obtain ⟨ap, cp, vsp, rfl, hrp, hlp, htp⟩ := hp.inv
      obtain ⟨kq, nq, asq⟩ := q
      obtain ⟨aq, cq, vsq, rfl, hrq, hlq, htq⟩ := hq.inv
      try simp only [List.length_cons, List.length_nil] at *
      refine TL.cons rfl (V1.t (V1.assign' z_C) ?_)
      refine TL.nil ?_
      refine T.cond_t rfl ?_
      refine T.seq ?_
      refine T.drawK (fun L_ => Find L_ ⟨b5, 0, [.int .i64 2, .string (bstr []), .slice (some ⟨bp, op_, none⟩) 2 cx], 3⟩ ∧ Inc Ps L_) mixed ⟨z_D, z_B⟩ ?_
      refine TK.take 0 rfl (by decide +kernel) (by decide +kernel) (by decide +kernel) rfl (fun _ _ _ h => h) (fun L_ ⟨k1_, k2_⟩ => V1.move' z_C) ?_
      refine TK.take 1 rfl (by decide +kernel) (by decide +kernel) (by decide +kernel) rfl (fun _ _ _ h => h) (fun L_ ⟨k1_, k2_⟩ => V1.nilCheck rfl) ?_
      refine TK.take 2 rfl (by decide +kernel) (by decide +kernel) (by decide +kernel) rfl (fun _ _ _ h => h) (fun L_ ⟨k1_, k2_⟩ => V1.fieldAddr fl_108_0 rfl) ?_
      refine TK.take 3 rfl (by decide +kernel) (by decide +kernel) (by decide +kernel) rfl (fun _ _ _ h => h) (fun L_ ⟨k1_, k2_⟩ => V1.fieldAddr fl_24_2 rfl) ?_
      refine TK.take 4 rfl (by decide +kernel) (by decide +kernel) (by decide +kernel) rfl (fun _ _ _ h => h) (fun L_ ⟨k1_, k2_⟩ => V1.load1 one_22 rfl (.own z_D (by rfl))) ?_
      refine TK.take 5 rfl (by decide +kernel) (by decide +kernel) (by decide +kernel) rfl (fun _ _ _ h => h) (fun L_ ⟨k1_, k2_⟩ => V1.indexAddrS ty_22 sz_24 rfl rfl (by decide) (by decide)) ?_
      refine TK.take 6 rfl (by decide +kernel) (by decide +kernel) (by decide +kernel) rfl (fun _ _ _ h => h) (fun L_ ⟨k1_, k2_⟩ => V1.loadN (vs := [.int .i64 kp, .string (bstr np), .slice ap asp.length cp]) one_24 sz_24 rfl (hrdp _ rfl rfl _ z_B) rfl) ?_
      refine TK.one 7 (by decide +kernel) rfl rfl (T1.callM (X := (⟨kb, 0, [.slice a li.length c], 1⟩ : Blk) :: Ls) has_88 rfl rfl (add_any w0 Ps (kb := kb) hsl hli (by omega) hap.st.srt (.mk kp np asp) _ hp) z_A z_B (fun v_ Y_ hY => ?_))
      obtain ⟨rfl, sA, LsA, vsA, rfl, hslA, hlA⟩ := hY
      simp only [List.cons_append]
      obtain ⟨rA, hrA⟩ : ∃ r, r = decide ((.mk kp np asp) ∉ li) := ⟨_, rfl⟩
      rw [← hrA]
      rcases Bool.eq_false_or_eq_true rA with hbA | hbA <;> subst hbA
      ·
        refine ⟨⟨z_D, z_B⟩, ?_⟩
        refine TK.take 8 rfl (by decide +kernel) (by decide +kernel) (by decide +kernel) rfl (fun _ _ _ h => h) (fun L_ ⟨k1_, k2_⟩ => V1.assign' z_C) ?_
        refine TD.done (by decide +kernel) ?_
        refine T.live (l := [(0, _), (3, _), (5, _), (6, _), (11, _), (12, _), (13, _)]) (.cons z_C (.cons z_C (.cons z_C (.cons z_C (.cons z_C (.cons z_C (.cons z_C .nil))))))) (fun e_ => ?_)
        refine T.drawK (fun L_ => Find L_ ⟨b5, 0, [.int .i64 2, .string (bstr []), .slice (some ⟨bp, op_, none⟩) 2 cx], 3⟩ ∧ Inc Ps L_) mixed ⟨z_D, z_B⟩ ?_
        refine TK.take 0 rfl (by decide +kernel) (by decide +kernel) (by decide +kernel) rfl (fun _ _ _ h => h) (fun L_ ⟨k1_, k2_⟩ => V1.move' z_C) ?_
        refine TK.take 1 rfl (by decide +kernel) (by decide +kernel) (by decide +kernel) rfl (fun _ _ _ h => h) (fun L_ ⟨k1_, k2_⟩ => V1.nilCheck rfl) ?_
        refine TK.take 2 rfl (by decide +kernel) (by decide +kernel) (by decide +kernel) rfl (fun _ _ _ h => h) (fun L_ ⟨k1_, k2_⟩ => V1.fieldAddr fl_108_0 rfl) ?_
        refine TK.take 3 rfl (by decide +kernel) (by decide +kernel) (by decide +kernel) rfl (fun _ _ _ h => h) (fun L_ ⟨k1_, k2_⟩ => V1.fieldAddr fl_24_2 rfl) ?_
        refine TK.take 4 rfl (by decide +kernel) (by decide +kernel) (by decide +kernel) rfl (fun _ _ _ h => h) (fun L_ ⟨k1_, k2_⟩ => V1.load1 one_22 rfl (.own z_D (by rfl))) ?_
        refine TK.take 5 rfl (by decide +kernel) (by decide +kernel) (by decide +kernel) rfl (fun _ _ _ h => h) (fun L_ ⟨k1_, k2_⟩ => V1.indexAddrS ty_22 sz_24 rfl rfl (by decide) (by decide)) ?_
        refine TK.take 6 rfl (by decide +kernel) (by decide +kernel) (by decide +kernel) rfl (fun _ _ _ h => h) (fun L_ ⟨k1_, k2_⟩ => V1.loadN (vs := [.int .i64 kq, .string (bstr nq), .slice aq asq.length cq]) one_24 sz_24 rfl (hrdq _ rfl rfl _ z_B) rfl) ?_
        refine TK.one 7 (by decide +kernel) rfl rfl (T1.callM (X := (⟨kb, 0, [sA], 1⟩ : Blk) :: LsA) has_88 rfl rfl (add_any w0 Ps (kb := kb) hslA hlA (by have := insT_len li (.mk kp np asp); split at this <;> omega) (insT_srt hap.st.srt _) (.mk kq nq asq) _ hq) z_A z_B (fun v_ Y_ hY => ?_))
        obtain ⟨rfl, sB, LsB, vsB, rfl, hslB, hlB⟩ := hY
        simp only [List.cons_append]
        obtain ⟨rB, hrB⟩ : ∃ r, r = decide ((.mk kq nq asq) ∉ insT li (.mk kp np asp)) := ⟨_, rfl⟩
        rw [← hrB]
        rcases Bool.eq_false_or_eq_true rB with hbB | hbB <;> subst hbB
        ·
          refine ⟨⟨z_D, z_B⟩, ?_⟩
          refine TK.take 8 rfl (by decide +kernel) (by decide +kernel) (by decide +kernel) rfl (fun _ _ _ h => h) (fun L_ ⟨k1_, k2_⟩ => V1.move' z_C) ?_
          refine TD.takeNo (i := 9) rfl (by decide +kernel) (by decide +kernel) (by decide +kernel) rfl (fun _ _ _ h => h) ?_
          refine TK.take 10 rfl (by decide +kernel) (by decide +kernel) (by decide +kernel) rfl (fun _ _ _ h => h) (fun L_ ⟨k1_, k2_⟩ => V1.pick rfl z_C) ?_
          refine TK.take 11 rfl (by decide +kernel) (by decide +kernel) (by decide +kernel) rfl (fun _ _ _ h => h) (fun L_ ⟨k1_, k2_⟩ => V1.move' z_C) ?_
          refine TD.takeNo (i := 12) rfl (by decide +kernel) (by decide +kernel) (by decide +kernel) rfl (fun _ _ _ h => h) ?_
          refine TK.take 13 rfl (by decide +kernel) (by decide +kernel) (by decide +kernel) rfl (fun _ _ _ h => h) (fun L_ ⟨k1_, k2_⟩ => V1.pick rfl z_C) ?_
          refine TK.take 14 rfl (by decide +kernel) (by decide +kernel) (by decide +kernel) rfl (fun _ _ _ h => h) (fun L_ ⟨k1_, k2_⟩ => V1.assign' z_C) ?_
          refine TD.done (by decide +kernel) ?_
          refine T.live (l := [(0, _), (3, _), (11, _), (12, _), (13, _)]) (.cons z_C (.cons z_C (.cons z_C (.cons z_C (.cons z_C .nil))))) (fun e_ => ?_)
          refine T.region ?_
          refine TL.cons rfl (V1.t (V1.add (c := ((i + 1 : Nat) : Int)) rfl rfl (by rw [wrap_i64 _ (by omega) (by omega)]; omega)) ?_)
          refine TL.cons rfl (V1.t (V1.move' z_C) ?_)
          refine TL.nil ?_
          exact ⟨(i + 1, true), _, _, (by simp only; omega), (.cons rfl (.cons rfl .nil)), (.cons rfl (.cons rfl (.cons rfl .nil))), z_A, ⟨_, _, _, _, rfl, by simp only; omega, hslB, hlB, by simpa using hap.pair hx0 hrA hrB⟩⟩
        ·
          refine ⟨⟨z_D, z_B⟩, ?_⟩
          refine TK.take 8 rfl (by decide +kernel) (by decide +kernel) (by decide +kernel) rfl (fun _ _ _ h => h) (fun L_ ⟨k1_, k2_⟩ => V1.move' z_C) ?_
          refine TK.take 9 rfl (by decide +kernel) (by decide +kernel) (by decide +kernel) rfl (fun _ _ _ h => h) (fun L_ ⟨k1_, k2_⟩ => V1.move' z_C) ?_
          refine TK.take 10 rfl (by decide +kernel) (by decide +kernel) (by decide +kernel) rfl (fun _ _ _ h => h) (fun L_ ⟨k1_, k2_⟩ => V1.pick rfl z_C) ?_
          refine TK.take 11 rfl (by decide +kernel) (by decide +kernel) (by decide +kernel) rfl (fun _ _ _ h => h) (fun L_ ⟨k1_, k2_⟩ => V1.move' z_C) ?_
          refine TD.takeNo (i := 12) rfl (by decide +kernel) (by decide +kernel) (by decide +kernel) rfl (fun _ _ _ h => h) ?_
          refine TK.take 13 rfl (by decide +kernel) (by decide +kernel) (by decide +kernel) rfl (fun _ _ _ h => h) (fun L_ ⟨k1_, k2_⟩ => V1.pick rfl z_C) ?_
          refine TK.take 14 rfl (by decide +kernel) (by decide +kernel) (by decide +kernel) rfl (fun _ _ _ h => h) (fun L_ ⟨k1_, k2_⟩ => V1.assign' z_C) ?_
          refine TD.done (by decide +kernel) ?_
          refine T.live (l := [(0, _), (3, _), (11, _), (12, _), (13, _)]) (.cons z_C (.cons z_C (.cons z_C (.cons z_C (.cons z_C .nil))))) (fun e_ => ?_)
          refine T.region ?_
          refine TL.cons rfl (V1.t (V1.add (c := ((i + 1 : Nat) : Int)) rfl rfl (by rw [wrap_i64 _ (by omega) (by omega)]; omega)) ?_)
          refine TL.cons rfl (V1.t (V1.move' z_C) ?_)
          refine TL.nil ?_
          exact ⟨(i + 1, true), _, _, (by simp only; omega), (.cons rfl (.cons rfl .nil)), (.cons rfl (.cons rfl (.cons rfl .nil))), z_A, ⟨_, _, _, _, rfl, by simp only; omega, hslB, hlB, by simpa using hap.pair hx0 hrA hrB⟩⟩
      ·
        refine ⟨⟨z_D, z_B⟩, ?_⟩
        refine TK.take 8 rfl (by decide +kernel) (by decide +kernel) (by decide +kernel) rfl (fun _ _ _ h => h) (fun L_ ⟨k1_, k2_⟩ => V1.assign' z_C) ?_
        refine TD.done (by decide +kernel) ?_
        refine T.live (l := [(0, _), (3, _), (5, _), (6, _), (11, _), (12, _), (13, _)]) (.cons z_C (.cons z_C (.cons z_C (.cons z_C (.cons z_C (.cons z_C (.cons z_C .nil))))))) (fun e_ => ?_)
        refine T.drawK (fun L_ => Find L_ ⟨b5, 0, [.int .i64 2, .string (bstr []), .slice (some ⟨bp, op_, none⟩) 2 cx], 3⟩ ∧ Inc Ps L_) mixed ⟨z_D, z_B⟩ ?_
        refine TK.take 0 rfl (by decide +kernel) (by decide +kernel) (by decide +kernel) rfl (fun _ _ _ h => h) (fun L_ ⟨k1_, k2_⟩ => V1.move' z_C) ?_
        refine TK.take 1 rfl (by decide +kernel) (by decide +kernel) (by decide +kernel) rfl (fun _ _ _ h => h) (fun L_ ⟨k1_, k2_⟩ => V1.nilCheck rfl) ?_
        refine TK.take 2 rfl (by decide +kernel) (by decide +kernel) (by decide +kernel) rfl (fun _ _ _ h => h) (fun L_ ⟨k1_, k2_⟩ => V1.fieldAddr fl_108_0 rfl) ?_
        refine TK.take 3 rfl (by decide +kernel) (by decide +kernel) (by decide +kernel) rfl (fun _ _ _ h => h) (fun L_ ⟨k1_, k2_⟩ => V1.fieldAddr fl_24_2 rfl) ?_
        refine TK.take 4 rfl (by decide +kernel) (by decide +kernel) (by decide +kernel) rfl (fun _ _ _ h => h) (fun L_ ⟨k1_, k2_⟩ => V1.load1 one_22 rfl (.own z_D (by rfl))) ?_
        refine TK.take 5 rfl (by decide +kernel) (by decide +kernel) (by decide +kernel) rfl (fun _ _ _ h => h) (fun L_ ⟨k1_, k2_⟩ => V1.indexAddrS ty_22 sz_24 rfl rfl (by decide) (by decide)) ?_
        refine TK.take 6 rfl (by decide +kernel) (by decide +kernel) (by decide +kernel) rfl (fun _ _ _ h => h) (fun L_ ⟨k1_, k2_⟩ => V1.loadN (vs := [.int .i64 kq, .string (bstr nq), .slice aq asq.length cq]) one_24 sz_24 rfl (hrdq _ rfl rfl _ z_B) rfl) ?_
        refine TK.one 7 (by decide +kernel) rfl rfl (T1.callM (X := (⟨kb, 0, [sA], 1⟩ : Blk) :: LsA) has_88 rfl rfl (add_any w0 Ps (kb := kb) hslA hlA (by have := insT_len li (.mk kp np asp); split at this <;> omega) (insT_srt hap.st.srt _) (.mk kq nq asq) _ hq) z_A z_B (fun v_ Y_ hY => ?_))
        obtain ⟨rfl, sB, LsB, vsB, rfl, hslB, hlB⟩ := hY
        simp only [List.cons_append]
        obtain ⟨rB, hrB⟩ : ∃ r, r = decide ((.mk kq nq asq) ∉ insT li (.mk kp np asp)) := ⟨_, rfl⟩
        rw [← hrB]
        rcases Bool.eq_false_or_eq_true rB with hbB | hbB <;> subst hbB
        ·
          refine ⟨⟨z_D, z_B⟩, ?_⟩
          refine TK.take 8 rfl (by decide +kernel) (by decide +kernel) (by decide +kernel) rfl (fun _ _ _ h => h) (fun L_ ⟨k1_, k2_⟩ => V1.move' z_C) ?_
          refine TD.takeNo (i := 9) rfl (by decide +kernel) (by decide +kernel) (by decide +kernel) rfl (fun _ _ _ h => h) ?_
          refine TK.take 10 rfl (by decide +kernel) (by decide +kernel) (by decide +kernel) rfl (fun _ _ _ h => h) (fun L_ ⟨k1_, k2_⟩ => V1.pick rfl z_C) ?_
          refine TK.take 11 rfl (by decide +kernel) (by decide +kernel) (by decide +kernel) rfl (fun _ _ _ h => h) (fun L_ ⟨k1_, k2_⟩ => V1.move' z_C) ?_
          refine TD.takeNo (i := 12) rfl (by decide +kernel) (by decide +kernel) (by decide +kernel) rfl (fun _ _ _ h => h) ?_
          refine TK.take 13 rfl (by decide +kernel) (by decide +kernel) (by decide +kernel) rfl (fun _ _ _ h => h) (fun L_ ⟨k1_, k2_⟩ => V1.pick rfl z_C) ?_
          refine TK.take 14 rfl (by decide +kernel) (by decide +kernel) (by decide +kernel) rfl (fun _ _ _ h => h) (fun L_ ⟨k1_, k2_⟩ => V1.assign' z_C) ?_
          refine TD.done (by decide +kernel) ?_
          refine T.live (l := [(0, _), (3, _), (11, _), (12, _), (13, _)]) (.cons z_C (.cons z_C (.cons z_C (.cons z_C (.cons z_C .nil))))) (fun e_ => ?_)
          refine T.region ?_
          refine TL.cons rfl (V1.t (V1.add (c := ((i + 1 : Nat) : Int)) rfl rfl (by rw [wrap_i64 _ (by omega) (by omega)]; omega)) ?_)
          refine TL.cons rfl (V1.t (V1.move' z_C) ?_)
          refine TL.nil ?_
          exact ⟨(i + 1, true), _, _, (by simp only; omega), (.cons rfl (.cons rfl .nil)), (.cons rfl (.cons rfl (.cons rfl .nil))), z_A, ⟨_, _, _, _, rfl, by simp only; omega, hslB, hlB, by simpa using hap.pair hx0 hrA hrB⟩⟩
        ·
          refine ⟨⟨z_D, z_B⟩, ?_⟩
          refine TK.take 8 rfl (by decide +kernel) (by decide +kernel) (by decide +kernel) rfl (fun _ _ _ h => h) (fun L_ ⟨k1_, k2_⟩ => V1.move' z_C) ?_
          refine TK.take 9 rfl (by decide +kernel) (by decide +kernel) (by decide +kernel) rfl (fun _ _ _ h => h) (fun L_ ⟨k1_, k2_⟩ => V1.move' z_C) ?_
          refine TK.take 10 rfl (by decide +kernel) (by decide +kernel) (by decide +kernel) rfl (fun _ _ _ h => h) (fun L_ ⟨k1_, k2_⟩ => V1.pick rfl z_C) ?_
          refine TK.take 11 rfl (by decide +kernel) (by decide +kernel) (by decide +kernel) rfl (fun _ _ _ h => h) (fun L_ ⟨k1_, k2_⟩ => V1.move' z_C) ?_
          refine TK.take 12 rfl (by decide +kernel) (by decide +kernel) (by decide +kernel) rfl (fun _ _ _ h => h) (fun L_ ⟨k1_, k2_⟩ => V1.move' z_C) ?_
          refine TK.take 13 rfl (by decide +kernel) (by decide +kernel) (by decide +kernel) rfl (fun _ _ _ h => h) (fun L_ ⟨k1_, k2_⟩ => V1.pick rfl z_C) ?_
          refine TK.take 14 rfl (by decide +kernel) (by decide +kernel) (by decide +kernel) rfl (fun _ _ _ h => h) (fun L_ ⟨k1_, k2_⟩ => V1.assign' z_C) ?_
          refine TD.done (by decide +kernel) ?_
          refine T.live (l := [(0, _), (3, _), (11, _), (12, _), (13, _)]) (.cons z_C (.cons z_C (.cons z_C (.cons z_C (.cons z_C .nil))))) (fun e_ => ?_)
          refine T.region ?_
          refine TL.cons rfl (V1.t (V1.add (c := ((i + 1 : Nat) : Int)) rfl rfl (by rw [wrap_i64 _ (by omega) (by omega)]; omega)) ?_)
          refine TL.cons rfl (V1.t (V1.move' z_C) ?_)
          refine TL.nil ?_
          exact ⟨(i + 1, more), _, _, (by simp only; omega), (.cons rfl (.cons rfl .nil)), (.cons rfl (.cons rfl (.cons rfl .nil))), z_A, ⟨_, _, _, _, rfl, by simp only; omega, hslB, hlB, by simpa using hap.pair hx0 hrA hrB⟩⟩
    ·
      refine TL.cons rfl (V1.t (V1.assign' z_C) ?_)
      refine TL.nil ?_
      refine T.cond_f rfl ?_
      refine T.seq ?_
      refine T.region ?_
      refine TL.cons rfl (T1.eqI_split rfl rfl (fun h9 => ?_) (fun h9 => ?_))
      ·
        subst h9
        obtain ⟨hlen2, rfl⟩ := headOk_two (shp_mk.1 hsx).1 (by decide)
        obtain ⟨p, q, rfl⟩ : ∃ p q, asx = [p, q] := by match asx, hlen2 with | [p, q], _ => exact ⟨p, q, rfl⟩
        obtain ⟨bp, op_, csp, rfl, hp, hrdp⟩ := hrx.term (i := 0) (x := p) htx rfl P
        obtain ⟨bq, oq_, csq, hbq, hq, hrdq⟩ := hrx.term (i := 1) (x := q) htx rfl P
        cases hbq
        have hshp := (shp_mk.1 hsx).2 p (by simp)
        have hshq := (shp_mk.1 hsx).2 q (by simp)
        obtain ⟨kp, np, asp⟩ := p
        obtain ⟨ap, cp, vsp, rfl, hrp, hlp, htp⟩ := hp.inv
        obtain ⟨kq, nq, asq⟩ := q
        obtain ⟨aq, cq, vsq, rfl, hrq, hlq, htq⟩ := hq.inv
        try simp only [List.length_cons, List.length_nil] at *
        refine TL.cons rfl (V1.t (V1.assign' z_C) ?_)
        refine TL.nil ?_
        refine T.cond_t rfl ?_
        refine T.drawK (fun L_ => Find L_ ⟨b5, 0, [.int .i64 8, .string (bstr []), .slice (some ⟨bp, op_, none⟩) 2 cx], 3⟩ ∧ Inc Ps L_) mixed ⟨z_D, z_B⟩ ?_
        refine TK.take 0 rfl (by decide +kernel) (by decide +kernel) (by decide +kernel) rfl (fun _ _ _ h => h) (fun L_ ⟨k1_, k2_⟩ => V1.move' z_C) ?_
        refine TK.take 1 rfl (by decide +kernel) (by decide +kernel) (by decide +kernel) rfl (fun _ _ _ h => h) (fun L_ ⟨k1_, k2_⟩ => V1.nilCheck rfl) ?_
        refine TK.take 2 rfl (by decide +kernel) (by decide +kernel) (by decide +kernel) rfl (fun _ _ _ h => h) (fun L_ ⟨k1_, k2_⟩ => V1.fieldAddr fl_108_0 rfl) ?_
        refine TK.take 3 rfl (by decide +kernel) (by decide +kernel) (by decide +kernel) rfl (fun _ _ _ h => h) (fun L_ ⟨k1_, k2_⟩ => V1.fieldAddr fl_24_2 rfl) ?_
        refine TK.take 4 rfl (by decide +kernel) (by decide +kernel) (by decide +kernel) rfl (fun _ _ _ h => h) (fun L_ ⟨k1_, k2_⟩ => V1.load1 one_22 rfl (.own z_D (by rfl))) ?_
        refine TK.take 5 rfl (by decide +kernel) (by decide +kernel) (by decide +kernel) rfl (fun _ _ _ h => h) (fun L_ ⟨k1_, k2_⟩ => V1.indexAddrS ty_22 sz_24 rfl rfl (by decide) (by decide)) ?_
        refine TK.take 6 rfl (by decide +kernel) (by decide +kernel) (by decide +kernel) rfl (fun _ _ _ h => h) (fun L_ ⟨k1_, k2_⟩ => V1.loadN (vs := [.int .i64 kq, .string (bstr nq), .slice aq asq.length cq]) one_24 sz_24 rfl (hrdq _ rfl rfl _ z_B) rfl) ?_
        refine TK.one 7 (by decide +kernel) rfl rfl (T1.callM (X := (⟨kb, 0, [.slice a li.length c], 1⟩ : Blk) :: Ls) has_88 rfl rfl (add_any w0 Ps (kb := kb) hsl hli (by omega) hap.st.srt (.mk kq nq asq) _ hq) z_A z_B (fun v_ Y_ hY => ?_))
        obtain ⟨rfl, sA, LsA, vsA, rfl, hslA, hlA⟩ := hY
        simp only [List.cons_append]
        obtain ⟨rA, hrA⟩ : ∃ r, r = decide ((.mk kq nq asq) ∉ li) := ⟨_, rfl⟩
        rw [← hrA]
        rcases Bool.eq_false_or_eq_true rA with hbA | hbA <;> subst hbA
        ·
          refine ⟨⟨z_D, z_B⟩, ?_⟩
          refine TK.take 8 rfl (by decide +kernel) (by decide +kernel) (by decide +kernel) rfl (fun _ _ _ h => h) (fun L_ ⟨k1_, k2_⟩ => V1.move' z_C) ?_
          refine TD.takeNo (i := 9) rfl (by decide +kernel) (by decide +kernel) (by decide +kernel) rfl (fun _ _ _ h => h) ?_
          refine TK.take 10 rfl (by decide +kernel) (by decide +kernel) (by decide +kernel) rfl (fun _ _ _ h => h) (fun L_ ⟨k1_, k2_⟩ => V1.pick rfl z_C) ?_
          refine TK.take 11 rfl (by decide +kernel) (by decide +kernel) (by decide +kernel) rfl (fun _ _ _ h => h) (fun L_ ⟨k1_, k2_⟩ => V1.assign' z_C) ?_
          refine TD.done (by decide +kernel) ?_
          refine T.live (l := [(0, _), (3, _), (11, _), (12, _), (13, _)]) (.cons z_C (.cons z_C (.cons z_C (.cons z_C (.cons z_C .nil))))) (fun e_ => ?_)
          refine T.region ?_
          refine TL.cons rfl (V1.t (V1.add (c := ((i + 1 : Nat) : Int)) rfl rfl (by rw [wrap_i64 _ (by omega) (by omega)]; omega)) ?_)
          refine TL.cons rfl (V1.t (V1.move' z_C) ?_)
          refine TL.nil ?_
          exact ⟨(i + 1, true), _, _, (by simp only; omega), (.cons rfl (.cons rfl .nil)), (.cons rfl (.cons rfl (.cons rfl .nil))), z_A, ⟨_, _, _, _, rfl, by simp only; omega, hslA, hlA, by simpa using hap.sign hx0 hrA⟩⟩
        ·
          refine ⟨⟨z_D, z_B⟩, ?_⟩
          refine TK.take 8 rfl (by decide +kernel) (by decide +kernel) (by decide +kernel) rfl (fun _ _ _ h => h) (fun L_ ⟨k1_, k2_⟩ => V1.move' z_C) ?_
          refine TK.take 9 rfl (by decide +kernel) (by decide +kernel) (by decide +kernel) rfl (fun _ _ _ h => h) (fun L_ ⟨k1_, k2_⟩ => V1.move' z_C) ?_
          refine TK.take 10 rfl (by decide +kernel) (by decide +kernel) (by decide +kernel) rfl (fun _ _ _ h => h) (fun L_ ⟨k1_, k2_⟩ => V1.pick rfl z_C) ?_
          refine TK.take 11 rfl (by decide +kernel) (by decide +kernel) (by decide +kernel) rfl (fun _ _ _ h => h) (fun L_ ⟨k1_, k2_⟩ => V1.assign' z_C) ?_
          refine TD.done (by decide +kernel) ?_
          refine T.live (l := [(0, _), (3, _), (11, _), (12, _), (13, _)]) (.cons z_C (.cons z_C (.cons z_C (.cons z_C (.cons z_C .nil))))) (fun e_ => ?_)
          refine T.region ?_
          refine TL.cons rfl (V1.t (V1.add (c := ((i + 1 : Nat) : Int)) rfl rfl (by rw [wrap_i64 _ (by omega) (by omega)]; omega)) ?_)
          refine TL.cons rfl (V1.t (V1.move' z_C) ?_)
          refine TL.nil ?_
          exact ⟨(i + 1, more), _, _, (by simp only; omega), (.cons rfl (.cons rfl .nil)), (.cons rfl (.cons rfl (.cons rfl .nil))), z_A, ⟨_, _, _, _, rfl, by simp only; omega, hslA, hlA, by simpa using hap.sign hx0 hrA⟩⟩
      ·
        refine TL.cons rfl (V1.t (V1.assign' z_C) ?_)
        refine TL.nil ?_
        refine T.cond_f rfl ?_
        refine T.seq ?_
        refine T.region ?_
        refine TL.cons rfl (T1.eqI_split rfl rfl (fun h11 => ?_) (fun h11 => ?_))
        ·
          subst h11
          obtain ⟨hlen2, rfl⟩ := headOk_two (shp_mk.1 hsx).1 (by decide)
          obtain ⟨p, q, rfl⟩ : ∃ p q, asx = [p, q] := by match asx, hlen2 with | [p, q], _ => exact ⟨p, q, rfl⟩
          obtain ⟨bp, op_, csp, rfl, hp, hrdp⟩ := hrx.term (i := 0) (x := p) htx rfl P
          obtain ⟨bq, oq_, csq, hbq, hq, hrdq⟩ := hrx.term (i := 1) (x := q) htx rfl P
          cases hbq
          have hshp := (shp_mk.1 hsx).2 p (by simp)
          have hshq := (shp_mk.1 hsx).2 q (by simp)
          obtain ⟨kp, np, asp⟩ := p
          obtain ⟨ap, cp, vsp, rfl, hrp, hlp, htp⟩ := hp.inv
          obtain ⟨kq, nq, asq⟩ := q
          obtain ⟨aq, cq, vsq, rfl, hrq, hlq, htq⟩ := hq.inv
          try simp only [List.length_cons, List.length_nil] at *
          refine TL.cons rfl (V1.t (V1.assign' z_C) ?_)
          refine TL.nil ?_
          refine T.cond_t rfl ?_
          refine T.seq ?_
          refine T.drawK (fun L_ => Find L_ ⟨b5, 0, [.int .i64 3, .string (bstr []), .slice (some ⟨bp, op_, none⟩) 2 cx], 3⟩ ∧ Find L_ (⟨kb, 0, [.slice a li.length c], 1⟩ : Blk) ∧ Inc Ps L_ ∧ Inc Ls L_) mixed ⟨z_D, z_D, z_B, z_B⟩ ?_
          refine TK.take 0 rfl (by decide +kernel) (by decide +kernel) (by decide +kernel) rfl (fun _ _ _ h => h) (fun L_ ⟨k1_, k2_, k3_, k4_⟩ => V1.move' z_C) ?_
          refine TK.take 1 rfl (by decide +kernel) (by decide +kernel) (by decide +kernel) rfl (fun _ _ _ h => h) (fun L_ ⟨k1_, k2_, k3_, k4_⟩ => V1.nilCheck rfl) ?_
          refine TK.take 2 rfl (by decide +kernel) (by decide +kernel) (by decide +kernel) rfl (fun _ _ _ h => h) (fun L_ ⟨k1_, k2_, k3_, k4_⟩ => V1.fieldAddr fl_108_0 rfl) ?_
          refine TK.take 3 rfl (by decide +kernel) (by decide +kernel) (by decide +kernel) rfl (fun _ _ _ h => h) (fun L_ ⟨k1_, k2_, k3_, k4_⟩ => V1.load1 one_106 rfl (.own z_D (by rfl))) ?_
          refine TK.take 4 rfl (by decide +kernel) (by decide +kernel) (by decide +kernel) rfl (fun _ _ _ h => h) (fun L_ ⟨k1_, k2_, k3_, k4_⟩ => V1.fieldAddr fl_24_2 rfl) ?_
          refine TK.take 5 rfl (by decide +kernel) (by decide +kernel) (by decide +kernel) rfl (fun _ _ _ h => h) (fun L_ ⟨k1_, k2_, k3_, k4_⟩ => V1.load1 one_22 rfl (.own z_D (by rfl))) ?_
          refine TK.take 6 rfl (by decide +kernel) (by decide +kernel) (by decide +kernel) rfl (fun _ _ _ h => h) (fun L_ ⟨k1_, k2_, k3_, k4_⟩ => V1.indexAddrS ty_22 sz_24 rfl rfl (by decide) (by decide)) ?_
          refine TK.take 7 rfl (by decide +kernel) (by decide +kernel) (by decide +kernel) rfl (fun _ _ _ h => h) (fun L_ ⟨k1_, k2_, k3_, k4_⟩ => V1.loadN (vs := [.int .i64 kq, .string (bstr nq), .slice aq asq.length cq]) one_24 sz_24 rfl (hrdq _ rfl rfl _ z_B) rfl) ?_
          refine TK.one 8 (by decide +kernel) rfl rfl (T1.callV has_90 rfl rfl (has_any w0 (Ls ++ Ps) hrow (hli.more (Inc.skip Inc.refl)) (by unfold maxN; omega) hap.st.srt (.mk kq nq asq) _ (hq.more (Inc.skip Inc.refl))) z_B (fun v_ hv => ?_))
          obtain rfl := hv
          rcases Classical.em ((.mk kq nq asq) ∈ li) with hmem | hmem
          ·
            rw [decide_eq_true hmem]
            refine ⟨⟨z_D, z_D, z_B, z_B⟩, ?_⟩
            refine TK.take 9 rfl (by decide +kernel) (by decide +kernel) (by decide +kernel) rfl (fun _ _ _ h => h) (fun L_ ⟨k1_, k2_, k3_, k4_⟩ => V1.not rfl rfl) ?_
            refine TK.take 10 rfl (by decide +kernel) (by decide +kernel) (by decide +kernel) rfl (fun _ _ _ h => h) (fun L_ ⟨k1_, k2_, k3_, k4_⟩ => V1.move' z_C) ?_
            refine TD.takeNo (i := 11) rfl (by decide +kernel) (by decide +kernel) (by decide +kernel) rfl (fun _ _ _ h => h) ?_
            refine TD.takeNo (i := 12) rfl (by decide +kernel) (by decide +kernel) (by decide +kernel) rfl (fun _ _ _ h => h) ?_
            refine TD.takeNo (i := 13) rfl (by decide +kernel) (by decide +kernel) (by decide +kernel) rfl (fun _ _ _ h => h) ?_
            refine TD.takeNo (i := 14) rfl (by decide +kernel) (by decide +kernel) (by decide +kernel) rfl (fun _ _ _ h => h) ?_
            refine TD.takeNo (i := 15) rfl (by decide +kernel) (by decide +kernel) (by decide +kernel) rfl (fun _ _ _ h => h) ?_
            refine TD.takeNo (i := 16) rfl (by decide +kernel) (by decide +kernel) (by decide +kernel) rfl (fun _ _ _ h => h) ?_
            refine TK.take 17 rfl (by decide +kernel) (by decide +kernel) (by decide +kernel) rfl (fun _ _ _ h => h) (fun L_ ⟨k1_, k2_, k3_, k4_⟩ => V1.pick rfl z_C) ?_
            refine TD.done (by decide +kernel) ?_
            refine T.cond_f rfl ?_
            refine T.skip ?_
            refine T.live (l := [(0, _), (3, _), (11, _), (12, _), (13, _)]) (.cons z_C (.cons z_C (.cons z_C (.cons z_C (.cons z_C .nil))))) (fun e_ => ?_)
            refine T.region ?_
            refine TL.cons rfl (V1.t (V1.add (c := ((i + 1 : Nat) : Int)) rfl rfl (by rw [wrap_i64 _ (by omega) (by omega)]; omega)) ?_)
            refine TL.cons rfl (V1.t (V1.move' z_C) ?_)
            refine TL.nil ?_
            exact ⟨(i + 1, more), _, _, (by simp only; omega), (.cons rfl (.cons rfl .nil)), (.cons rfl (.cons rfl (.cons rfl .nil))), z_A, ⟨_, _, _, _, rfl, by simp only; omega, hsl, hli, hap.seal0 hx0 (by first | exact .inl hmem | (right; simp_all))⟩⟩
          ·
            rw [decide_eq_false hmem]
            refine ⟨⟨z_D, z_D, z_B, z_B⟩, ?_⟩
            refine TK.take 9 rfl (by decide +kernel) (by decide +kernel) (by decide +kernel) rfl (fun _ _ _ h => h) (fun L_ ⟨k1_, k2_, k3_, k4_⟩ => V1.not rfl rfl) ?_
            refine TK.take 10 rfl (by decide +kernel) (by decide +kernel) (by decide +kernel) rfl (fun _ _ _ h => h) (fun L_ ⟨k1_, k2_, k3_, k4_⟩ => V1.move' z_C) ?_
            refine TK.take 11 rfl (by decide +kernel) (by decide +kernel) (by decide +kernel) rfl (fun _ _ _ h => h) (fun L_ ⟨k1_, k2_, k3_, k4_⟩ => V1.move' z_C) ?_
            refine TK.take 12 rfl (by decide +kernel) (by decide +kernel) (by decide +kernel) rfl (fun _ _ _ h => h) (fun L_ ⟨k1_, k2_, k3_, k4_⟩ => V1.fieldAddr fl_24_2 rfl) ?_
            refine TK.take 13 rfl (by decide +kernel) (by decide +kernel) (by decide +kernel) rfl (fun _ _ _ h => h) (fun L_ ⟨k1_, k2_, k3_, k4_⟩ => V1.load1 one_22 rfl (.own z_D (by rfl))) ?_
            refine TK.take 14 rfl (by decide +kernel) (by decide +kernel) (by decide +kernel) rfl (fun _ _ _ h => h) (fun L_ ⟨k1_, k2_, k3_, k4_⟩ => V1.indexAddrS ty_22 sz_24 rfl rfl (by decide) (by decide)) ?_
            refine TK.take 15 rfl (by decide +kernel) (by decide +kernel) (by decide +kernel) rfl (fun _ _ _ h => h) (fun L_ ⟨k1_, k2_, k3_, k4_⟩ => V1.loadN (vs := [.int .i64 kp, .string (bstr np), .slice ap asp.length cp]) one_24 sz_24 rfl (hrdp _ rfl rfl _ z_B) rfl) ?_
            refine TK.one 16 (by decide +kernel) rfl rfl (T1.callV has_61 rfl rfl (makes_any w0 li (.mk kp np asp) ((⟨kb, 0, [.slice a li.length c], 1⟩ : Blk) :: (Ls ++ Ps)) kb _ ⟨⟨a, c, vs, List.mem_cons_self .., hrow.more (Inc.skip1 Inc.refl), hli.more (Inc.skip1 (Inc.skip Inc.refl))⟩, by omega, hap.st.srt⟩ (hp.more (Inc.skip1 (Inc.skip Inc.refl))) hshp) z_B (fun v_ hv => ?_))
            obtain ⟨r, rfl, hmk⟩ := hv
            rcases Bool.eq_false_or_eq_true r with hrb | hrb <;> subst hrb
            ·
              refine ⟨⟨z_D, z_D, z_B, z_B⟩, ?_⟩
              refine TK.take 17 rfl (by decide +kernel) (by decide +kernel) (by decide +kernel) rfl (fun _ _ _ h => h) (fun L_ ⟨k1_, k2_, k3_, k4_⟩ => V1.pick rfl z_C) ?_
              refine TD.done (by decide +kernel) ?_
              refine T.cond_t rfl ?_
              refine T.live (l := [(0, _), (3, _), (5, _), (11, _), (12, _), (13, _)]) (.cons z_C (.cons z_C (.cons z_C (.cons z_C (.cons z_C (.cons z_C .nil)))))) (fun e_ => ?_)
              refine T.drawK (fun L_ => Find L_ ⟨b5, 0, [.int .i64 3, .string (bstr []), .slice (some ⟨bp, op_, none⟩) 2 cx], 3⟩ ∧ Inc Ps L_) mixed ⟨z_D, z_B⟩ ?_
              refine TK.take 0 rfl (by decide +kernel) (by decide +kernel) (by decide +kernel) rfl (fun _ _ _ h => h) (fun L_ ⟨k1_, k2_⟩ => V1.move' z_C) ?_
              refine TK.take 1 rfl (by decide +kernel) (by decide +kernel) (by decide +kernel) rfl (fun _ _ _ h => h) (fun L_ ⟨k1_, k2_⟩ => V1.nilCheck rfl) ?_
              refine TK.take 2 rfl (by decide +kernel) (by decide +kernel) (by decide +kernel) rfl (fun _ _ _ h => h) (fun L_ ⟨k1_, k2_⟩ => V1.fieldAddr fl_108_0 rfl) ?_
              refine TK.take 3 rfl (by decide +kernel) (by decide +kernel) (by decide +kernel) rfl (fun _ _ _ h => h) (fun L_ ⟨k1_, k2_⟩ => V1.fieldAddr fl_24_2 rfl) ?_
              refine TK.take 4 rfl (by decide +kernel) (by decide +kernel) (by decide +kernel) rfl (fun _ _ _ h => h) (fun L_ ⟨k1_, k2_⟩ => V1.load1 one_22 rfl (.own z_D (by rfl))) ?_
              refine TK.take 5 rfl (by decide +kernel) (by decide +kernel) (by decide +kernel) rfl (fun _ _ _ h => h) (fun L_ ⟨k1_, k2_⟩ => V1.indexAddrS ty_22 sz_24 rfl rfl (by decide) (by decide)) ?_
              refine TK.take 6 rfl (by decide +kernel) (by decide +kernel) (by decide +kernel) rfl (fun _ _ _ h => h) (fun L_ ⟨k1_, k2_⟩ => V1.loadN (vs := [.int .i64 kq, .string (bstr nq), .slice aq asq.length cq]) one_24 sz_24 rfl (hrdq _ rfl rfl _ z_B) rfl) ?_
              refine TK.one 7 (by decide +kernel) rfl rfl (T1.callM (X := (⟨kb, 0, [.slice a li.length c], 1⟩ : Blk) :: Ls) has_88 rfl rfl (add_any w0 Ps (kb := kb) hsl hli (by omega) hap.st.srt (.mk kq nq asq) _ hq) z_A z_B (fun v_ Y_ hY => ?_))
              obtain ⟨rfl, sA, LsA, vsA, rfl, hslA, hlA⟩ := hY
              simp only [List.cons_append]
              obtain ⟨rA, hrA⟩ : ∃ r, r = decide ((.mk kq nq asq) ∉ li) := ⟨_, rfl⟩
              rw [← hrA]
              rcases Bool.eq_false_or_eq_true rA with hbA | hbA <;> subst hbA
              ·
                refine ⟨⟨z_D, z_B⟩, ?_⟩
                refine TK.take 8 rfl (by decide +kernel) (by decide +kernel) (by decide +kernel) rfl (fun _ _ _ h => h) (fun L_ ⟨k1_, k2_⟩ => V1.move' z_C) ?_
                refine TD.takeNo (i := 9) rfl (by decide +kernel) (by decide +kernel) (by decide +kernel) rfl (fun _ _ _ h => h) ?_
                refine TK.take 10 rfl (by decide +kernel) (by decide +kernel) (by decide +kernel) rfl (fun _ _ _ h => h) (fun L_ ⟨k1_, k2_⟩ => V1.pick rfl z_C) ?_
                refine TK.take 11 rfl (by decide +kernel) (by decide +kernel) (by decide +kernel) rfl (fun _ _ _ h => h) (fun L_ ⟨k1_, k2_⟩ => V1.assign' z_C) ?_
                refine TD.done (by decide +kernel) ?_
                refine T.region ?_
                refine TL.cons rfl (V1.t (V1.add (c := ((i + 1 : Nat) : Int)) rfl rfl (by rw [wrap_i64 _ (by omega) (by omega)]; omega)) ?_)
                refine TL.cons rfl (V1.t (V1.move' z_C) ?_)
                refine TL.nil ?_
                exact ⟨(i + 1, true), _, _, (by simp only; omega), (.cons rfl (.cons rfl .nil)), (.cons rfl (.cons rfl (.cons rfl .nil))), z_A, ⟨_, _, _, _, rfl, by simp only; omega, hslA, hlA, by simpa using hap.seal1 hx0 (by first | exact hmk.1 rfl | simp_all) hrA⟩⟩
              ·
                refine ⟨⟨z_D, z_B⟩, ?_⟩
                refine TK.take 8 rfl (by decide +kernel) (by decide +kernel) (by decide +kernel) rfl (fun _ _ _ h => h) (fun L_ ⟨k1_, k2_⟩ => V1.move' z_C) ?_
                refine TK.take 9 rfl (by decide +kernel) (by decide +kernel) (by decide +kernel) rfl (fun _ _ _ h => h) (fun L_ ⟨k1_, k2_⟩ => V1.move' z_C) ?_
                refine TK.take 10 rfl (by decide +kernel) (by decide +kernel) (by decide +kernel) rfl (fun _ _ _ h => h) (fun L_ ⟨k1_, k2_⟩ => V1.pick rfl z_C) ?_
                refine TK.take 11 rfl (by decide +kernel) (by decide +kernel) (by decide +kernel) rfl (fun _ _ _ h => h) (fun L_ ⟨k1_, k2_⟩ => V1.assign' z_C) ?_
                refine TD.done (by decide +kernel) ?_
                refine T.region ?_
                refine TL.cons rfl (V1.t (V1.add (c := ((i + 1 : Nat) : Int)) rfl rfl (by rw [wrap_i64 _ (by omega) (by omega)]; omega)) ?_)
                refine TL.cons rfl (V1.t (V1.move' z_C) ?_)
                refine TL.nil ?_
                exact ⟨(i + 1, more), _, _, (by simp only; omega), (.cons rfl (.cons rfl .nil)), (.cons rfl (.cons rfl (.cons rfl .nil))), z_A, ⟨_, _, _, _, rfl, by simp only; omega, hslA, hlA, by simpa using hap.seal1 hx0 (by first | exact hmk.1 rfl | simp_all) hrA⟩⟩
            ·
              refine ⟨⟨z_D, z_D, z_B, z_B⟩, ?_⟩
              refine TK.take 17 rfl (by decide +kernel) (by decide +kernel) (by decide +kernel) rfl (fun _ _ _ h => h) (fun L_ ⟨k1_, k2_, k3_, k4_⟩ => V1.pick rfl z_C) ?_
              refine TD.done (by decide +kernel) ?_
              refine T.cond_f rfl ?_
              refine T.skip ?_
              refine T.live (l := [(0, _), (3, _), (11, _), (12, _), (13, _)]) (.cons z_C (.cons z_C (.cons z_C (.cons z_C (.cons z_C .nil))))) (fun e_ => ?_)
              refine T.region ?_
              refine TL.cons rfl (V1.t (V1.add (c := ((i + 1 : Nat) : Int)) rfl rfl (by rw [wrap_i64 _ (by omega) (by omega)]; omega)) ?_)
              refine TL.cons rfl (V1.t (V1.move' z_C) ?_)
              refine TL.nil ?_
              exact ⟨(i + 1, more), _, _, (by simp only; omega), (.cons rfl (.cons rfl .nil)), (.cons rfl (.cons rfl (.cons rfl .nil))), z_A, ⟨_, _, _, _, rfl, by simp only; omega, hsl, hli, hap.seal0 hx0 (by first | exact .inl hmem | (right; simp_all))⟩⟩
        ·
          refine TL.cons rfl (V1.t (V1.assign' z_C) ?_)
          refine TL.nil ?_
          refine T.cond_f rfl ?_
          refine T.skip ?_
          refine T.region ?_
          refine TL.cons rfl (V1.t (V1.add (c := ((i + 1 : Nat) : Int)) rfl rfl (by rw [wrap_i64 _ (by omega) (by omega)]; omega)) ?_)
          refine TL.cons rfl (V1.t (V1.move' z_C) ?_)
          refine TL.nil ?_
          exact ⟨(i + 1, more), _, _, (by simp only; omega), (.cons rfl (.cons rfl .nil)), (.cons rfl (.cons rfl (.cons rfl .nil))), z_A, ⟨_, _, _, _, rfl, by simp only; omega, hsl, hli, hap.other hx0 h6 h9 h11⟩⟩
  ·
    try simp only at h3
    obtain rfl : i = l.length := by omega
    refine TL.nil ?_
    refine T.seq ?_
    refine T.cond_f rfl ?_
    refine T.exit ?_
    refine T.seq ?_
    refine T.region ?_
    refine TL.cons rfl (V1.t (V1.move' z_C) ?_)
    refine TL.cons rfl (V1.t (V1.assign' z_C) ?_)
    refine TL.nil ?_
    refine T.ret ?_
    exact ⟨_, (⟨kb, 0, [.slice a li.length c], 1⟩ : Blk) :: (Ls ++ G), _, .cons (.tmp z_C) .nil, z_A, (⟨kb, 0, [.slice a li.length c], 1⟩ : Blk) :: Ls, rfl, more, _, Ls, vs, li, rfl, rfl, hsl, hli, hap⟩

end Go.Proofs.YtlpkcbkflfbclaaGreatDoor.S
