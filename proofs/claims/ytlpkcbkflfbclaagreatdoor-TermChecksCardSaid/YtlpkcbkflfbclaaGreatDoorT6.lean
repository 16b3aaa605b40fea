/- The one form of a term. -/
import Derived.Test.YtlpkcbkflfbclaaGreatDoorT5
import Derived.Test.YtlpkcbkflfbclaaGreatDoorOps9
import Derived.Test.YtlpkcbkflfbclaaGreatDoorTmSpec
namespace Go.Proofs.YtlpkcbkflfbclaaGreatDoor.S
open Go.RowKit

set_option maxRecDepth 100000 in
theorem Of_any (w0 : World) (Ps : List Blk) (s : List UInt8) : FnV P 32 [.string (bstr s)] w0 Ps (fun v => v = .agg [.int .i64 1, .string (bstr s), .slice none 0 0].toArray) := by
  refine FnV.of 5 [.cell 2 24] Go.Proofs.Tryz.func32 rfl rfl rfl rfl (fun G hG => ?_)
  refine T.seq ?_
  refine T.region ?_
  refine TL.cons rfl (T1.allocN 3 zr_24 rfl (fun b2 => ?_))
  refine TL.nil ?_
  refine T.seq ?_
  refine T.region ?_
  refine TL.cons rfl (V1.t (V1.move' z_D) ?_)
  refine TL.cons rfl (V1.t (V1.buildF pl_24 zr_24 (.one rfl z_D rfl (.one rfl z_D rfl .nil)) (by repeat (first | exact FillL.nil | exact SetN.done | apply SetN.here | apply SetN.there | apply FillL.cons))) ?_)
  refine TL.cons rfl (T1.storeN rfl rfl sz_24 (ones rfl) z_G (by rfl) (by rfl) ?_)
  refine TL.nil ?_
  refine T.ret ?_
  exact ⟨_, G, _, .cons (.cellN z_D one_24 sz_24 (RdN.whole z_C) rfl) .nil, z_A, rfl, rfl⟩

def NormAt (w0 : World) (x : Tm) : Prop := ∀ (Ps : List Blk) (cx : List Value), TmR w0 Ps x cx → shp x = true → FnG P 17 [.agg cx.toArray] w0 Ps [] (fun v Y => ∃ cy, v = .agg cy.toArray ∧ TmR w0 (Y ++ Ps) (nrm x) cy)
theorem nrmL_take {ts : List Tm} {i : Nat} {x : Tm} (h : ts[i]? = some x) : nrmL (ts.take (i + 1)) = nrmL (ts.take i) ++ [nrm x] := by
  rw [nrmL_map, nrmL_map, List.take_add_one, h]; simp
theorem nrm_cases {k : Int} {nm : List UInt8} {ts : List Tm} (h : shp (.mk k nm ts) = true) :
    (k = 6 ∧ nm = [] ∧ ∃ p q, ts = [p, q] ∧ nrm (.mk k nm ts) = .mk 6 [] (two [nrm p, nrm q])) ∨ (k = 7 ∧ nm = [] ∧ ∃ p q z, ts = [p, q] ∧ nrm q = .mk 5 [] [z] ∧ nrm (.mk k nm ts) = .mk 6 [] (two [nrm p, z])) ∨
    (k = 7 ∧ nm = [] ∧ ∃ p q kq nq aq, ts = [p, q] ∧ nrm q = .mk kq nq aq ∧ kq ≠ 5 ∧ nrm (.mk k nm ts) = .mk 7 [] (nrmL ts)) ∨ (k ≠ 6 ∧ k ≠ 7 ∧ nrm (.mk k nm ts) = .mk k nm (nrmL ts)) := by
  obtain ⟨h1, h2⟩ := shp_mk.1 h
  by_cases h7 : k = 7
  · subst h7
    obtain ⟨hl, rfl⟩ := headOk_two h1 (by decide)
    match ts, hl with
    | [p, q], _ =>
      have hq := shp_nrm q (h2 q (by simp))
      have e : nrm (.mk 7 [] [p, q]) = nrm1 7 [] [nrm p, nrm q] := rfl
      generalize hqq : nrm q = q' at *
      obtain ⟨kq, nq, aq⟩ := q'
      by_cases h5 : kq = 5
      · subst h5
        obtain ⟨gl, rfl⟩ := headOk_five (shp_mk.1 hq).1
        obtain ⟨z, rfl⟩ := List.length_eq_one_iff.1 gl
        exact .inr (.inl ⟨rfl, rfl, p, q, z, rfl, hqq, by rw [e, nrm1_pub]⟩)
      · refine .inr (.inr (.inl ⟨rfl, rfl, p, q, kq, nq, aq, rfl, hqq, h5, ?_⟩))
        rw [e, nrm1_seven (b := .mk kq nq aq) h5]
        show _ = Tm.mk 7 [] [nrm p, nrm q]
        rw [hqq]
  · by_cases h6 : k = 6
    · subst h6
      obtain ⟨hl, rfl⟩ := headOk_two h1 (by decide)
      match ts, hl with
      | [p, q], _ => exact .inl ⟨rfl, rfl, p, q, rfl, nrm1_six⟩
    · exact .inr (.inr (.inr ⟨h6, h7, by rw [nrm, nrm1_else h7 h6]⟩))

set_option maxRecDepth 100000 in
theorem Normal_step (w0 : World) (Ps : List Blk) {k : Int} {nm : List UInt8} {ts : List Tm} (ih : ∀ x ∈ ts, NormAt w0 x) (cx : List Value) (hx : TmR w0 Ps (.mk k nm ts) cx) (hsh : shp (.mk k nm ts) = true) : FnG P 17 [.agg cx.toArray] w0 Ps [] (fun v Y => ∃ cy, v = .agg cy.toArray ∧ TmR w0 (Y ++ Ps) (nrm (.mk k nm ts)) cy) := by
  obtain ⟨a, c, vs, rfl, hr, hl, ht⟩ := hx.inv
  unfold maxN at hl
  have hl4 := headOk_le4 (shp_mk.1 hsh).1
  refine FnG.of 72 [.cell 2 24] Go.Proofs.Tryz.func17 rfl rfl rfl rfl (fun G hG => ?_)
  refine T.seq ?_
  refine T.region ?_
  refine TL.cons rfl (T1.boxN 3 rfl rfl (fun b1 => ?_))
  refine TL.cons rfl (T1.allocN 3 zr_24 rfl (fun b2 => ?_))
  refine TL.nil ?_
  refine T.seq ?_
  refine T.region ?_
  refine TL.cons rfl (V1.t (V1.fieldAddr fl_24_0 rfl) ?_)
  refine TL.cons rfl (V1.t (V1.load1 one_3 rfl (.own z_C (by rfl))) ?_)
  refine TL.cons rfl (V1.t (V1.fieldAddr fl_24_1 rfl) ?_)
  refine TL.cons rfl (V1.t (V1.load1 one_9 rfl (.own z_C (by rfl))) ?_)
  refine TL.cons rfl (V1.t (V1.buildF pl_24 zr_24 (.one rfl z_D rfl (.one rfl z_D rfl .nil)) (by repeat (first | exact FillL.nil | exact SetN.done | apply SetN.here | apply SetN.there | apply FillL.cons))) ?_)
  refine TL.cons rfl (T1.allocN 3 zr_24 rfl (fun b3 => ?_))
  refine TL.cons rfl (T1.storeN rfl rfl sz_24 (ones rfl) z_G (by rfl) (by rfl) ?_)
  refine TL.nil ?_
  refine T.seq ?_
  refine T.seq ?_
  refine T.region ?_
  refine TL.cons rfl (V1.t (V1.fieldAddr fl_24_2 rfl) ?_)
  refine TL.cons rfl (V1.t (V1.load1 one_22 rfl (.own z_C (by rfl))) ?_)
  refine TL.cons rfl (V1.t (V1.lenSl ty_22 rfl) ?_)
  refine TL.cons rfl (V1.t (V1.move' z_D) ?_)
  refine TL.nil ?_
  refine T.block ?_
  refine T.loopL (σ := Nat) (l0 := [(2, _), (3, _), (12, _), (13, _)]) (fun x => [(14, .int .i64 (x : Nat))]) (fun i L => ∃ s Ls Y xs, L = ⟨b3, 0, [.int .i64 k, .string (bstr nm), s], 3⟩ :: ⟨b2, 0, [.int .i64 0, .string ⟨#[]⟩, .slice none 0 0], 3⟩ :: (Ls ++ (Y ++ G)) ∧ i ≤ ts.length ∧ Sl s xs 3 Ls ∧ TmsR w0 (Y ++ Ps) (nrmL (ts.take i)) xs) (fun i => ts.length - i) 0 (.cons rfl .nil) (.cons z_D (.cons z_D (.cons z_D (.cons z_D .nil)))) z_A (⟨_, [], [], [], rfl, Nat.zero_le _, Sl.nil, TmsR.nil⟩) ?_
  rintro i e_ L ⟨s, Ls, Y, xs, rfl, hi, hsl, hxs⟩
  refine T.seq ?_
  refine T.region ?_
  refine TL.cons rfl (T1.ltI_split rfl rfl (fun h3 => ?_) (fun h3 => ?_))
  ·
    obtain ⟨x, hx0⟩ : ∃ x, ts[i]? = some x := ⟨_, List.getElem?_eq_getElem (by omega)⟩
    have hcx := ih x (List.mem_of_getElem? hx0)
    have hsx := (shp_mk.1 hsh).2 x (List.mem_of_getElem? hx0)
    have htk := nrmL_take hx0
    have hxl := hxs.len
    rw [nrmL_len, List.length_take] at hxl
    obtain ⟨bx, ox, cs_, rfl, hx, hrdx⟩ := hr.term ht hx0 P
    obtain ⟨kx, nx, asx⟩ := x
    obtain ⟨ax, cx, vsx, rfl, hrx, hlx, htx⟩ := hx.inv
    try simp only at *
    refine TL.nil ?_
    refine T.seq ?_
    refine T.cond_t rfl ?_
    refine T.skip ?_
    refine T.seq ?_
    refine T.block ?_
    refine T.seq ?_
    refine T.region ?_
    refine TL.cons rfl (V1.t (V1.indexAddrS ty_22 sz_24 rfl rfl (by omega) (by omega)) ?_)
    refine TL.cons rfl (V1.t (V1.loadN (vs := [.int .i64 kx, .string (bstr nx), .slice ax asx.length cx]) one_24 sz_24 rfl (hrdx _ rfl rfl _ z_E) rfl) ?_)
    refine TL.cons rfl (T1.allocN 3 zr_24 rfl (fun b5 => ?_))
    refine TL.cons rfl (T1.storeN rfl rfl sz_24 (ones rfl) z_G (by rfl) (by rfl) ?_)
    refine TL.nil ?_
    refine T.drawX (fun L_ => Find L_ ⟨b3, 0, [.int .i64 k, .string (bstr nm), s], 3⟩ ∧ Find L_ ⟨b5, 0, [.int .i64 kx, .string (bstr nx), .slice ax asx.length cx], 3⟩) 7 mixed ⟨z_C, z_C⟩ ?_
    refine TX.take 0 rfl (by decide +kernel) (by decide +kernel) (by decide +kernel) (by decide +kernel) rfl (fun _ _ _ h => h) (fun L_ ⟨k1_, k2_⟩ => V1.fieldAddr fl_24_2 rfl) ?_
    refine TX.take 1 rfl (by decide +kernel) (by decide +kernel) (by decide +kernel) (by decide +kernel) rfl (fun _ _ _ h => h) (fun L_ ⟨k1_, k2_⟩ => V1.load1 one_22 rfl (.own z_C (by rfl))) ?_
    refine TX.take 2 rfl (by decide +kernel) (by decide +kernel) (by decide +kernel) (by decide +kernel) rfl (fun _ _ _ h => h) (fun L_ ⟨k1_, k2_⟩ => V1.loadN one_24 sz_24 rfl (RdN.whole z_C) (by rfl)) ?_
    refine TX.one 3 (by decide +kernel) rfl rfl (T1.callC has_17 rfl rfl (hcx Ps _ hx hsx) z_E (fun v_ Y_ hY => ?_))
    obtain ⟨cy, rfl, hcy⟩ := hY
    refine ⟨⟨z_C, z_C⟩, ?_⟩
    refine TX.one 4 (by decide +kernel) rfl rfl (T1.buildOne (cs := cy) ty_22 sz_24 zr_24 (by decide) rfl hcy.len (fun b22 => ?_))
    refine ⟨⟨z_C, z_C⟩, ?_⟩
    refine TX.one 5 (by decide +kernel) rfl rfl (T1.append ty_22 kd_22 sz_24 by_24 zr_24 rfl (by decide) (by decide) rfl rfl hsl (.sl (RdN.at0 z_C) (by rw [hcy.len])) hcy.ones 4 (by rw [hxl, hcy.len]; omega) (by decide) z_B (fun s2 Ls2 hsl2 => ?_))
    refine ⟨⟨z_C, z_C⟩, ?_⟩
    refine TX.take 6 rfl (by decide +kernel) (by decide +kernel) (by decide +kernel) (by decide +kernel) rfl (fun _ _ _ h => h) (fun L_ ⟨k1_, k2_⟩ => V1.fieldAddr fl_24_2 rfl) ?_
    refine TX.oneK (by decide +kernel) rfl rfl (T1.store1 rfl rfl sz_22 hsl2.one z_G (Nat.zero_le _) z_H ?_)
    refine TX.done (by decide +kernel) ?_
    refine T.region ?_
    refine TL.cons rfl (V1.t (V1.add (c := ((i + 1 : Nat) : Int)) rfl rfl (by rw [wrap_i64 _ (by omega) (by omega)]; omega)) ?_)
    refine TL.cons rfl (V1.t (V1.move' z_D) ?_)
    refine TL.nil ?_
    exact ⟨i + 1, ⟨b3, 0, [.int .i64 k, .string (bstr nm), s2], 3⟩ :: ⟨b2, 0, [.int .i64 0, .string ⟨#[]⟩, .slice none 0 0], 3⟩ :: (Ls2 ++ (Y_ ++ (Y ++ G))), _, (by simp only; omega), (.cons rfl .nil), (.cons rfl (.cons rfl (.cons rfl (.cons rfl .nil)))), z_A, ⟨s2, Ls2, Y_ ++ Y, _, by rw [List.append_assoc], by omega, hsl2, by rw [htk]; exact (hxs.more (by intro B_ hB_; simp only [List.mem_append, List.mem_cons, List.not_mem_nil, or_false] at hB_ ⊢; grind)).app (TmsR.one (hcy.more (by intro B_ hB_; simp only [List.mem_append, List.mem_cons, List.not_mem_nil, or_false] at hB_ ⊢; grind)))⟩⟩
  ·
    obtain rfl : i = ts.length := by omega
    rw [List.take_length] at hxs
    refine TL.nil ?_
    refine T.seq ?_
    refine T.cond_f rfl ?_
    refine T.exit ?_
    refine T.seq ?_
    refine T.seq ?_
    refine T.region ?_
    refine TL.cons rfl (V1.t (V1.fieldAddr fl_24_0 rfl) ?_)
    refine TL.cons rfl (V1.t (V1.load1 one_3 rfl (.own z_C (by rfl))) ?_)
    rcases nrm_cases hsh with ⟨rfl, rfl, p, q, rfl, hnr⟩ | ⟨rfl, rfl, p, q, z, rfl, hq, hnr⟩ | ⟨rfl, rfl, p, q, kq, nq, aq, rfl, hq, hkq, hnr⟩ | ⟨hk6, hk7, hnr⟩
    ·
      obtain ⟨bs, off, cap, size, rfl, hcap, hsize, rfl⟩ := hsl.blk (n := 2) hxs.len (by decide)
      refine TL.cons rfl (V1.t (V1.eqI (r := false) rfl rfl (by first | decide | simp_all)) ?_)
      refine TL.cons rfl (V1.t (V1.move' z_D) ?_)
      refine TL.no rfl ?_
      refine TL.no rfl ?_
      refine TL.no rfl ?_
      refine TL.no rfl ?_
      refine TL.cons rfl (V1.t (V1.pick rfl z_D) ?_)
      refine TL.cons rfl (V1.t (V1.move' z_D) ?_)
      refine TL.no rfl ?_
      refine TL.no rfl ?_
      refine TL.no rfl ?_
      refine TL.no rfl ?_
      refine TL.no rfl ?_
      refine TL.no rfl ?_
      refine TL.cons rfl (V1.t (V1.pick rfl z_D) ?_)
      refine TL.cons rfl (V1.t (V1.move' z_D) ?_)
      refine TL.no rfl ?_
      refine TL.no rfl ?_
      refine TL.no rfl ?_
      refine TL.no rfl ?_
      refine TL.no rfl ?_
      refine TL.no rfl ?_
      refine TL.no rfl ?_
      refine TL.cons rfl (V1.t (V1.pick rfl z_D) ?_)
      refine TL.nil ?_
      refine T.cond_f rfl ?_
      refine T.skip ?_
      refine T.seq ?_
      refine T.seq ?_
      refine T.live (l := [(2, _), (3, _)]) (.cons z_D (.cons z_D .nil)) (fun e_ => ?_)
      refine T.region ?_
      refine TL.cons rfl (V1.t (V1.fieldAddr fl_24_0 rfl) ?_)
      refine TL.cons rfl (V1.t (V1.load1 one_3 rfl (.own z_C (by rfl))) ?_)
      refine TL.cons rfl (V1.t (V1.eqI (r := true) rfl rfl (by first | decide | simp_all)) ?_)
      refine TL.nil ?_
      refine T.cond_t rfl ?_
      refine T.region ?_
      refine TL.cons rfl (V1.t (V1.fieldAddr fl_24_2 rfl) ?_)
      refine TL.cons rfl (V1.t (V1.load1 one_22 rfl (.own z_C (by rfl))) ?_)
      refine TL.cons rfl (T1.callM (X := [(⟨bs, off, xs, size⟩ : Blk)]) has_40 rfl rfl (Stable_any w0 (Y ++ Ps) (x := nrm p) (y := nrm q) hxs) z_A z_E (fun v_ Y_ hY => ?_))
      obtain ⟨rfl, ws, rfl, hws⟩ := hY
      simp only [List.cons_append, List.nil_append]
      refine TL.nil ?_
      refine T.seq ?_
      refine T.region ?_
      refine TL.cons rfl (V1.t (V1.loadN one_24 sz_24 rfl (RdN.whole z_C) (by rfl)) ?_)
      refine TL.cons rfl (T1.storeN rfl rfl sz_24 (ones rfl) z_G (by rfl) (by rfl) ?_)
      refine TL.nil ?_
      refine T.ret ?_
      rw [hnr]
      exact ⟨_, ⟨bs, off, ws, size⟩ :: (Y ++ G), _, .cons (.cellN z_D one_24 sz_24 (RdN.whole z_C) rfl) .nil, z_A, ⟨bs, off, ws, size⟩ :: Y, rfl, _, rfl, TmR.mkN (by rw [two_len]; rfl) (RowR.own (List.mem_cons_self ..) (by rw [hws.len, two_len]; rfl)) (by decide) (hws.more (Inc.skip1 Inc.refl))⟩
    ·
      obtain ⟨bs, off, cap, size, rfl, hcap, hsize, rfl⟩ := hsl.blk (n := 2) hxs.len (by decide)
      obtain ⟨c0, c1, rfl, hc0, hc1⟩ := TmsR.two_inv (x := nrm p) (y := nrm q) hxs
      rw [hq] at hc1
      obtain ⟨aa, cq, vq, rfl, hrq, hlq, htq⟩ := hc1.inv
      obtain ⟨bz, oz, cz, rfl, hz, hrdz⟩ := RowR.term (i := 0) (x := z) hrq htq rfl P
      simp only [List.length_singleton] at *
      refine TL.cons rfl (V1.t (V1.eqI (r := true) rfl rfl (by first | decide | simp_all)) ?_)
      refine TL.cons rfl (V1.t (V1.move' z_D) ?_)
      refine TL.cons rfl (V1.t (V1.fieldAddr fl_24_2 rfl) ?_)
      refine TL.cons rfl (V1.t (V1.load1 one_22 rfl (.own z_C (by rfl))) ?_)
      refine TL.cons rfl (V1.t (V1.lenSl ty_22 rfl) ?_)
      refine TL.cons rfl (V1.t (V1.eqI (r := true) rfl rfl (by decide)) ?_)
      refine TL.cons rfl (V1.t (V1.pick rfl z_D) ?_)
      refine TL.cons rfl (V1.t (V1.move' z_D) ?_)
      refine TL.cons rfl (V1.t (V1.fieldAddr fl_24_2 rfl) ?_)
      refine TL.cons rfl (V1.t (V1.load1 one_22 rfl (.own z_C (by rfl))) ?_)
      refine TL.cons rfl (V1.t (V1.indexAddrS ty_22 sz_24 rfl rfl (by decide) (by decide)) ?_)
      refine TL.cons rfl (V1.t (V1.fieldAddr fl_24_0 rfl) ?_)
      refine TL.cons rfl (V1.t (V1.load1 (v := Value.int .i64 5) one_3 rfl (Rd.mid2 (pre := c0) (cs := [Value.int .i64 5, Value.string (bstr []), Value.slice (some ⟨bz, oz, none⟩) 1 cq]) (post := []) (i := 0) z_C rfl (by rw [hc0.len]; rfl))) ?_)
      refine TL.cons rfl (V1.t (V1.eqI (r := true) rfl rfl (by first | decide | simp_all)) ?_)
      refine TL.cons rfl (V1.t (V1.pick rfl z_D) ?_)
      refine TL.cons rfl (V1.t (V1.move' z_D) ?_)
      refine TL.cons rfl (V1.t (V1.fieldAddr fl_24_2 rfl) ?_)
      refine TL.cons rfl (V1.t (V1.load1 one_22 rfl (.own z_C (by rfl))) ?_)
      refine TL.cons rfl (V1.t (V1.indexAddrS ty_22 sz_24 rfl rfl (by decide) (by decide)) ?_)
      refine TL.cons rfl (V1.t (V1.fieldAddr fl_24_2 rfl) ?_)
      refine TL.cons rfl (V1.t (V1.load1 (v := .slice (some ⟨bz, oz, none⟩) 1 cq) one_22 rfl (Rd.mid2 (pre := c0) (cs := [Value.int .i64 5, Value.string (bstr []), Value.slice (some ⟨bz, oz, none⟩) 1 cq]) (post := []) (i := 2) z_C rfl (by rw [hc0.len]; rfl))) ?_)
      refine TL.cons rfl (V1.t (V1.lenSl ty_22 rfl) ?_)
      refine TL.cons rfl (V1.t (V1.eqI (r := true) rfl rfl (by decide)) ?_)
      refine TL.cons rfl (V1.t (V1.pick rfl z_D) ?_)
      refine TL.nil ?_
      refine T.cond_t rfl ?_
      refine T.live (l := [(2, _), (3, _)]) (.cons z_D (.cons z_D .nil)) (fun e_ => ?_)
      refine T.drawTail 11 mixed (by decide +kernel) (by rfl) (by decide +kernel) rfl ?_
      refine Det.cons 0 (ins := [(3, _)]) (.old z_D (by decide +kernel) .nil) (fun e_ => .inl ⟨rfl, V1.t (V1.fieldAddr fl_24_2 rfl) ⟨rfl, rfl⟩⟩) ?_
      refine Det.cons 1 (ins := [(52, _)]) (.new 0 0 (by decide +kernel) rfl rfl .nil) (fun e_ => .inl ⟨rfl, V1.t (V1.load1 one_22 rfl (.own z_C (by rfl))) ⟨rfl, rfl⟩⟩) ?_
      refine Det.cons 2 (ins := [(53, _)]) (.new 1 0 (by decide +kernel) rfl rfl .nil) (fun e_ => .inl ⟨rfl, V1.t (V1.indexAddrS ty_22 sz_24 rfl rfl (by decide) (by decide)) ⟨rfl, rfl⟩⟩) ?_
      refine Det.cons 3 (ins := [(54, _)]) (.new 2 0 (by decide +kernel) rfl rfl .nil) (fun e_ => .inl ⟨rfl, V1.t (V1.loadN (vs := c0) one_24 sz_24 rfl (RdN.mid2 (pre := []) (cs := c0) (post := [Value.int .i64 5, Value.string (bstr []), Value.slice (some ⟨bz, oz, none⟩) 1 cq] ++ []) z_C rfl) hc0.len) ⟨rfl, rfl⟩⟩) ?_
      refine Det.cons 4 (ins := [(3, _)]) (.old z_D (by decide +kernel) .nil) (fun e_ => .inl ⟨rfl, V1.t (V1.fieldAddr fl_24_2 rfl) ⟨rfl, rfl⟩⟩) ?_
      refine Det.cons 5 (ins := [(56, _)]) (.new 4 0 (by decide +kernel) rfl rfl .nil) (fun e_ => .inl ⟨rfl, V1.t (V1.load1 one_22 rfl (.own z_C (by rfl))) ⟨rfl, rfl⟩⟩) ?_
      refine Det.cons 6 (ins := [(57, _)]) (.new 5 0 (by decide +kernel) rfl rfl .nil) (fun e_ => .inl ⟨rfl, V1.t (V1.indexAddrS ty_22 sz_24 rfl rfl (by decide) (by decide)) ⟨rfl, rfl⟩⟩) ?_
      refine Det.cons 7 (ins := [(58, _)]) (.new 6 0 (by decide +kernel) rfl rfl .nil) (fun e_ => .inl ⟨rfl, V1.t (V1.fieldAddr fl_24_2 rfl) ⟨rfl, rfl⟩⟩) ?_
      refine Det.cons 8 (ins := [(59, _)]) (.new 7 0 (by decide +kernel) rfl rfl .nil) (fun e_ => .inl ⟨rfl, V1.t (V1.load1 (v := .slice (some ⟨bz, oz, none⟩) 1 cq) one_22 rfl (Rd.mid2 (pre := c0) (cs := [Value.int .i64 5, Value.string (bstr []), Value.slice (some ⟨bz, oz, none⟩) 1 cq]) (post := []) (i := 2) z_C rfl (by rw [hc0.len]; rfl))) ⟨rfl, rfl⟩⟩) ?_
      refine Det.cons 9 (ins := [(60, _)]) (.new 8 0 (by decide +kernel) rfl rfl .nil) (fun e_ => .inl ⟨rfl, V1.t (V1.indexAddrS ty_22 sz_24 rfl rfl (by decide) (by decide)) ⟨rfl, rfl⟩⟩) ?_
      refine Det.cons 10 (ins := [(61, _)]) (.new 9 0 (by decide +kernel) rfl rfl .nil) (fun e_ => .inl ⟨rfl, V1.t (V1.loadN (vs := cz) one_24 sz_24 rfl (hrdz _ rfl rfl _ z_E) hz.len) ⟨rfl, rfl⟩⟩) ?_
      refine Det.nil 11 (l := [(2, _), (3, _), (55, _), (62, _)]) (.old z_D (by decide +kernel) (.old z_D (by decide +kernel) (.new 3 7 (by decide +kernel) rfl rfl (.new 10 0 (by decide +kernel) rfl rfl .nil)))) (fun e_ => ?_)
      refine (show TU _ _ _ 3 _ _ _ from ?_)
      refine TU.one 11 (by decide +kernel) rfl rfl (T1.buildTwo (cs := c0) (ds := cz) ty_22 sz_24 zr_24 (by decide) rfl rfl hc0.len hz.len (fun b63 => ?_))
      refine TU.one 12 (by decide +kernel) rfl rfl (V1.t (V1.buildF pl_24 zr_24 (.one rfl z_D rfl (.one rfl z_D rfl .nil)) (by repeat (first | exact FillL.nil | exact SetN.done | apply SetN.here | apply SetN.there | apply FillL.cons))) ?_)
      refine TU.one 13 (by decide +kernel) rfl rfl (T1.storeN rfl rfl sz_24 (ones rfl) z_G (by rfl) (by rfl) ?_)
      refine TU.done (by decide +kernel) ?_
      refine T.seq ?_
      refine T.seq ?_
      refine T.region ?_
      refine TL.cons rfl (V1.t (V1.fieldAddr fl_24_0 rfl) ?_)
      refine TL.cons rfl (V1.t (V1.load1 one_3 rfl (.own z_C (by rfl))) ?_)
      refine TL.cons rfl (V1.t (V1.eqI (r := true) rfl rfl (by first | decide | simp_all)) ?_)
      refine TL.nil ?_
      refine T.cond_t rfl ?_
      refine T.region ?_
      refine TL.cons rfl (V1.t (V1.fieldAddr fl_24_2 rfl) ?_)
      refine TL.cons rfl (V1.t (V1.load1 one_22 rfl (.own z_C (by rfl))) ?_)
      refine TL.cons rfl (T1.callM (X := [(⟨⟨b63, some 24⟩, 0, c0 ++ cz, 2 * 3⟩ : Blk)]) has_40 rfl rfl (Stable_any w0 (Y ++ Ps) (x := nrm p) (y := z) (TmsR.cons hc0 (TmsR.one hz))) z_A z_E (fun v_ Y_ hY => ?_))
      obtain ⟨rfl, ws, rfl, hws⟩ := hY
      simp only [List.cons_append, List.nil_append]
      refine TL.nil ?_
      refine T.seq ?_
      refine T.region ?_
      refine TL.cons rfl (V1.t (V1.loadN one_24 sz_24 rfl (RdN.whole z_C) (by rfl)) ?_)
      refine TL.cons rfl (T1.storeN rfl rfl sz_24 (ones rfl) z_G (by rfl) (by rfl) ?_)
      refine TL.nil ?_
      refine T.ret ?_
      rw [hnr]
      exact ⟨_, ⟨⟨b63, some 24⟩, 0, ws, 2 * 3⟩ :: (Y ++ G), _, .cons (.cellN z_D one_24 sz_24 (RdN.whole z_C) rfl) .nil, z_A, ⟨⟨b63, some 24⟩, 0, ws, 2 * 3⟩ :: Y, rfl, _, rfl, TmR.mkN (by rw [two_len]; rfl) (RowR.own (List.mem_cons_self ..) (by rw [hws.len, two_len]; rfl)) (by decide) (hws.more (Inc.skip1 Inc.refl))⟩
    ·
      obtain ⟨bs, off, cap, size, rfl, hcap, hsize, rfl⟩ := hsl.blk (n := 2) hxs.len (by decide)
      obtain ⟨c0, c1, rfl, hc0, hc1⟩ := TmsR.two_inv (x := nrm p) (y := nrm q) hxs
      rw [hq] at hc1
      obtain ⟨aa, cq, vq, rfl, hrq, hlq, htq⟩ := hc1.inv
      refine TL.cons rfl (V1.t (V1.eqI (r := true) rfl rfl (by first | decide | simp_all)) ?_)
      refine TL.cons rfl (V1.t (V1.move' z_D) ?_)
      refine TL.cons rfl (V1.t (V1.fieldAddr fl_24_2 rfl) ?_)
      refine TL.cons rfl (V1.t (V1.load1 one_22 rfl (.own z_C (by rfl))) ?_)
      refine TL.cons rfl (V1.t (V1.lenSl ty_22 rfl) ?_)
      refine TL.cons rfl (V1.t (V1.eqI (r := true) rfl rfl (by decide)) ?_)
      refine TL.cons rfl (V1.t (V1.pick rfl z_D) ?_)
      refine TL.cons rfl (V1.t (V1.move' z_D) ?_)
      refine TL.cons rfl (V1.t (V1.fieldAddr fl_24_2 rfl) ?_)
      refine TL.cons rfl (V1.t (V1.load1 one_22 rfl (.own z_C (by rfl))) ?_)
      refine TL.cons rfl (V1.t (V1.indexAddrS ty_22 sz_24 rfl rfl (by decide) (by decide)) ?_)
      refine TL.cons rfl (V1.t (V1.fieldAddr fl_24_0 rfl) ?_)
      refine TL.cons rfl (V1.t (V1.load1 (v := Value.int .i64 kq) one_3 rfl (Rd.mid2 (pre := c0) (cs := [Value.int .i64 kq, Value.string (bstr nq), Value.slice aa aq.length cq]) (post := []) (i := 0) z_C rfl (by rw [hc0.len]; rfl))) ?_)
      refine TL.cons rfl (V1.t (V1.eqI (r := false) rfl rfl (by first | decide | simp_all)) ?_)
      refine TL.cons rfl (V1.t (V1.pick rfl z_D) ?_)
      refine TL.cons rfl (V1.t (V1.move' z_D) ?_)
      refine TL.no rfl ?_
      refine TL.no rfl ?_
      refine TL.no rfl ?_
      refine TL.no rfl ?_
      refine TL.no rfl ?_
      refine TL.no rfl ?_
      refine TL.no rfl ?_
      refine TL.cons rfl (V1.t (V1.pick rfl z_D) ?_)
      refine TL.nil ?_
      refine T.cond_f rfl ?_
      refine T.skip ?_
      refine T.seq ?_
      refine T.seq ?_
      refine T.live (l := [(2, _), (3, _)]) (.cons z_D (.cons z_D .nil)) (fun e_ => ?_)
      refine T.region ?_
      refine TL.cons rfl (V1.t (V1.fieldAddr fl_24_0 rfl) ?_)
      refine TL.cons rfl (V1.t (V1.load1 one_3 rfl (.own z_C (by rfl))) ?_)
      refine TL.cons rfl (V1.t (V1.eqI (r := false) rfl rfl (by first | decide | simp_all)) ?_)
      refine TL.nil ?_
      refine T.cond_f rfl ?_
      refine T.skip ?_
      refine T.seq ?_
      refine T.region ?_
      refine TL.cons rfl (V1.t (V1.loadN one_24 sz_24 rfl (RdN.whole z_C) (by rfl)) ?_)
      refine TL.cons rfl (T1.storeN rfl rfl sz_24 (ones rfl) z_G (by rfl) (by rfl) ?_)
      refine TL.nil ?_
      refine T.ret ?_
      rw [hnr]
      exact ⟨_, ⟨bs, off, c0 ++ ([Value.int .i64 kq, Value.string (bstr nq), Value.slice aa aq.length cq] ++ []), size⟩ :: (Y ++ G), _, .cons (.cellN z_D one_24 sz_24 (RdN.whole z_C) rfl) .nil, z_A, ⟨bs, off, c0 ++ ([Value.int .i64 kq, Value.string (bstr nq), Value.slice aa aq.length cq] ++ []), size⟩ :: Y, rfl, _, rfl, TmR.mkN (n := 2) (vs := c0 ++ ([Value.int .i64 kq, Value.string (bstr nq), Value.slice aa aq.length cq] ++ [])) rfl (RowR.own (List.mem_cons_self ..) hxs.len) (by decide) (hxs.more (Inc.skip1 Inc.refl))⟩
    ·
      obtain ⟨sa, sc, rfl, hrow⟩ := hsl.tm hxs
      refine TL.cons rfl (V1.t (V1.eqI (r := false) rfl rfl (by first | decide | simp_all)) ?_)
      refine TL.cons rfl (V1.t (V1.move' z_D) ?_)
      refine TL.no rfl ?_
      refine TL.no rfl ?_
      refine TL.no rfl ?_
      refine TL.no rfl ?_
      refine TL.cons rfl (V1.t (V1.pick rfl z_D) ?_)
      refine TL.cons rfl (V1.t (V1.move' z_D) ?_)
      refine TL.no rfl ?_
      refine TL.no rfl ?_
      refine TL.no rfl ?_
      refine TL.no rfl ?_
      refine TL.no rfl ?_
      refine TL.no rfl ?_
      refine TL.cons rfl (V1.t (V1.pick rfl z_D) ?_)
      refine TL.cons rfl (V1.t (V1.move' z_D) ?_)
      refine TL.no rfl ?_
      refine TL.no rfl ?_
      refine TL.no rfl ?_
      refine TL.no rfl ?_
      refine TL.no rfl ?_
      refine TL.no rfl ?_
      refine TL.no rfl ?_
      refine TL.cons rfl (V1.t (V1.pick rfl z_D) ?_)
      refine TL.nil ?_
      refine T.cond_f rfl ?_
      refine T.skip ?_
      refine T.seq ?_
      refine T.seq ?_
      refine T.live (l := [(2, _), (3, _)]) (.cons z_D (.cons z_D .nil)) (fun e_ => ?_)
      refine T.region ?_
      refine TL.cons rfl (V1.t (V1.fieldAddr fl_24_0 rfl) ?_)
      refine TL.cons rfl (V1.t (V1.load1 one_3 rfl (.own z_C (by rfl))) ?_)
      refine TL.cons rfl (V1.t (V1.eqI (r := false) rfl rfl (by first | decide | simp_all)) ?_)
      refine TL.nil ?_
      refine T.cond_f rfl ?_
      refine T.skip ?_
      refine T.seq ?_
      refine T.region ?_
      refine TL.cons rfl (V1.t (V1.loadN one_24 sz_24 rfl (RdN.whole z_C) (by rfl)) ?_)
      refine TL.cons rfl (T1.storeN rfl rfl sz_24 (ones rfl) z_G (by rfl) (by rfl) ?_)
      refine TL.nil ?_
      refine T.ret ?_
      rw [hnr]
      exact ⟨_, Ls ++ (Y ++ G), _, .cons (.cellN z_D one_24 sz_24 (RdN.whole z_C) rfl) .nil, z_A, Ls ++ Y, by rw [List.append_assoc], _, rfl, TmR.mk (hrow.more (by intro B_ hB_; simp only [List.mem_append, List.mem_cons, List.not_mem_nil, or_false] at hB_ ⊢; grind)) (by unfold maxN; rw [nrmL_len]; omega) (hxs.more (by intro B_ hB_; simp only [List.mem_append, List.mem_cons, List.not_mem_nil, or_false] at hB_ ⊢; grind))⟩

theorem Normal_any (w0 : World) (x : Tm) : NormAt w0 x := by
  induction x using Tm.ind with
  | h k n xs ih => exact fun Ps cx hx hs => Normal_step w0 Ps ih cx hx hs
end Go.Proofs.YtlpkcbkflfbclaaGreatDoor.S
