/- The document's one form of a term. -/
import Derived.Test.YtlpkcbkflfbclaaGreatDoorT22
namespace Go.Proofs.YtlpkcbkflfbclaaGreatDoor.S
open Go.RowKit

def RNormAt (w0 : World) (x : Tm) : Prop := ∀ (Ps : List Blk) (cx : List Value), TmR w0 Ps x cx → shp x = true → FnG P 18 [.agg cx.toArray] w0 Ps [] (fun v Y => ∃ cy, v = .agg cy.toArray ∧ TmR w0 (Y ++ Ps) (nrm x) cy)
theorem TmR.forms2 {k : Int} {n : List UInt8} {ts : List Tm} {w0 : World} {Ps : List Blk} {cs : List Value} (h : TmR w0 Ps (.mk k n ts) cs) : ∃ a c, cs = [.int .i64 k, .string (bstr n), .slice a ts.length c] := by
  obtain ⟨a, c, _, e, _⟩ := h.inv; exact ⟨a, c, e⟩
theorem RdN.mid3 {C : Ctx} {L : List Blk} {b off o size : Nat} {tg : Option TypeId} {pre cs : List Value} (hf : Find L ⟨⟨b, tg⟩, off, pre ++ cs, size⟩) (ho : o = off + pre.length) : RdN C L ⟨b, o, none⟩ cs :=
  RdN.mid2 (pre := pre) (cs := cs) (post := []) (by rw [List.append_nil]; exact hf) ho
theorem two_lt {a b : Tm} (h : cmpT b a < 0) : two [a, b] = [b, a] := by simp [two, h]
theorem two_ge {a b : Tm} (h : ¬ cmpT b a < 0) : two [a, b] = [a, b] := by simp [two, h]

set_option maxRecDepth 100000 in
set_option maxHeartbeats 8000000 in
theorem RNormal_step (w0 : World) (Ps : List Blk) {k : Int} {nm : List UInt8} {ts : List Tm} (ih : ∀ x ∈ ts, RNormAt w0 x) (cx : List Value) (hx : TmR w0 Ps (.mk k nm ts) cx) (hsh : shp (.mk k nm ts) = true) : FnG P 18 [.agg cx.toArray] w0 Ps [] (fun v Y => ∃ cy, v = .agg cy.toArray ∧ TmR w0 (Y ++ Ps) (nrm (.mk k nm ts)) cy) := by
  obtain ⟨a, c, vs, rfl, hr, hl, ht⟩ := hx.inv
  unfold maxN at hl
  have hl4 := headOk_le4 (shp_mk.1 hsh).1
  refine FnG.of 81 [.cell 2 29] Go.Proofs.Tryz.func18 rfl rfl rfl rfl (fun G hG => ?_)
  refine T.seq ?_
  refine T.region ?_
  refine TL.cons rfl (T1.boxN 3 rfl rfl (fun b1 => ?_))
  refine TL.cons rfl (T1.allocN 3 zr_29 rfl (fun b2 => ?_))
  refine TL.nil ?_
  refine T.seq ?_
  refine T.region ?_
  refine TL.cons rfl (V1.t (V1.fieldAddr fl_29_0 rfl) ?_)
  refine TL.cons rfl (V1.t (V1.load1 one_3 rfl (.own z_C (by rfl))) ?_)
  refine TL.cons rfl (V1.t (V1.fieldAddr fl_29_1 rfl) ?_)
  refine TL.cons rfl (V1.t (V1.load1 one_9 rfl (.own z_C (by rfl))) ?_)
  refine TL.cons rfl (V1.t (V1.buildF pl_29 zr_29 (.one rfl z_D rfl (.one rfl z_D rfl .nil)) (by repeat (first | exact FillL.nil | exact SetN.done | apply SetN.here | apply SetN.there | apply FillL.cons))) ?_)
  refine TL.cons rfl (T1.allocN 3 zr_29 rfl (fun b3 => ?_))
  refine TL.cons rfl (T1.storeN rfl rfl sz_29 (ones rfl) z_G (by rfl) (by rfl) ?_)
  refine TL.nil ?_
  refine T.seq ?_
  refine T.seq ?_
  refine T.region ?_
  refine TL.cons rfl (V1.t (V1.assign' z_D) ?_)
  refine TL.nil ?_
  refine T.block ?_
  refine T.loopL (σ := Nat) (l0 := [(1, _), (2, _), (3, _)]) (fun x => [(4, .int .i64 (x : Nat))]) (fun i L => ∃ s Ls Y xs, L = ⟨b3, 0, [.int .i64 k, .string (bstr nm), s], 3⟩ :: ⟨b2, 0, [.int .i64 0, .string ⟨#[]⟩, .slice none 0 0], 3⟩ :: ⟨b1, 0, [.int .i64 k, .string (bstr nm), .slice a ts.length c], 3⟩ :: (Ls ++ (Y ++ G)) ∧ i ≤ ts.length ∧ SlG (some 29) s xs 3 Ls ∧ TmsR w0 (Y ++ Ps) (nrmL (ts.take i)) xs) (fun i => ts.length - i) 0 (.cons rfl .nil) (.cons z_D (.cons z_D (.cons z_D .nil))) z_A (⟨_, [], [], [], rfl, Nat.zero_le _, SlG.nil, TmsR.nil⟩) ?_
  rintro i e_ L ⟨s, Ls, Y, xs, rfl, hi, hsl, hxs⟩
  refine T.seq ?_
  refine T.seq ?_
  refine T.region ?_
  refine TL.cons rfl (V1.t (V1.move' z_D) ?_)
  refine TL.cons rfl (V1.t (V1.fieldAddr fl_29_2 rfl) ?_)
  refine TL.cons rfl (V1.t (V1.load1 one_27 rfl (.own z_C (by rfl))) ?_)
  refine TL.cons rfl (V1.t (V1.lenSl ty_27 rfl) ?_)
  refine TL.cons rfl (T1.ltI_split rfl rfl (fun h3 => ?_) (fun h3 => ?_))
  ·
    obtain ⟨x, hx0⟩ : ∃ x, ts[i]? = some x := ⟨_, List.getElem?_eq_getElem (by omega)⟩
    have hcx := ih x (List.mem_of_getElem? hx0)
    have hsx := (shp_mk.1 hsh).2 x (List.mem_of_getElem? hx0)
    have htk := nrmL_take hx0
    have hxl := hxs.len
    rw [nrmL_len, List.length_take] at hxl
    obtain ⟨bx, ox, cs_, rfl, hx, hrdx⟩ := hr.term ht hx0 P
    obtain ⟨kx, nx, asx⟩ := x
    obtain ⟨ax, cx, vsx, rfl, hrx, hlx, htx⟩ := hx.inv
    try simp only at *
    refine TL.nil ?_
    refine T.cond_t rfl ?_
    refine T.skip ?_
    refine T.seq ?_
    refine T.block ?_
    refine T.seq ?_
    refine T.region ?_
    refine TL.cons rfl (V1.t (V1.fieldAddr fl_29_2 rfl) ?_)
    refine TL.cons rfl (V1.t (V1.load1 one_27 rfl (.own z_C (by rfl))) ?_)
    refine TL.cons rfl (V1.t (V1.move' z_D) ?_)
    refine TL.cons rfl (V1.t (V1.indexAddrS ty_27 sz_29 rfl rfl (by omega) (by omega)) ?_)
    refine TL.cons rfl (V1.t (V1.loadN (vs := [.int .i64 kx, .string (bstr nx), .slice ax asx.length cx]) one_29 sz_29 rfl (hrdx _ rfl rfl _ z_E) rfl) ?_)
    refine TL.cons rfl (T1.callC has_18 rfl rfl (hcx Ps _ hx hsx) z_E (fun v_ Y_ hY => ?_))
    obtain ⟨cy, rfl, hcy⟩ := hY
    generalize hz_ : nrm (.mk kx nx asx) = zt at hcy
    obtain ⟨kz, nz, tsz⟩ := zt
    obtain ⟨az, cz, rfl⟩ := hcy.forms2
    refine TL.cons rfl (T1.allocN 3 zr_29 rfl (fun b5 => ?_))
    refine TL.cons rfl (T1.storeN rfl rfl sz_29 (ones rfl) z_G (by rfl) (by rfl) ?_)
    refine TL.nil ?_
    refine T.region ?_
    refine TL.cons rfl (V1.t (V1.fieldAddr fl_29_2 rfl) ?_)
    refine TL.cons rfl (V1.t (V1.load1 one_27 rfl (.own z_C (by rfl))) ?_)
    refine TL.cons rfl (V1.t (V1.loadN one_29 sz_29 rfl (RdN.whole z_C) (by rfl)) ?_)
    refine TL.cons rfl (T1.buildOne (cs := [.int .i64 kz, .string (bstr nz), .slice az tsz.length cz]) ty_27 sz_29 zr_29 (by decide) rfl (by rfl) (fun b27 => ?_))
    refine TL.cons rfl (T1.appendG ty_27 kd_27 sz_29 by_29 zr_29 rfl (by decide) (by decide) rfl rfl (.inr rfl) hsl (.sl (vs := [.int .i64 kz, .string (bstr nz), .slice az tsz.length cz]) (RdN.at0 z_C) (by rfl)) (ones rfl) 4 (by rw [hxl]; show _ + 3 ≤ _; omega) (by decide) z_B (fun s2 Ls2 hsl2 => ?_))
    refine TL.cons rfl (V1.t (V1.fieldAddr fl_29_2 rfl) ?_)
    refine TL.cons rfl (T1.store1 rfl rfl sz_27 hsl2.one z_G (Nat.zero_le _) z_H ?_)
    refine TL.nil ?_
    refine T.live (l := [(1, _), (2, _), (3, _), (4, _)]) (.cons z_D (.cons z_D (.cons z_D (.cons z_D .nil)))) (fun e_ => ?_)
    refine T.region ?_
    refine TL.cons rfl (V1.t (V1.move' z_D) ?_)
    refine TL.cons rfl (V1.t (V1.add (c := ((i + 1 : Nat) : Int)) rfl rfl (by rw [wrap_i64 _ (by omega) (by omega)]; omega)) ?_)
    refine TL.cons rfl (V1.t (V1.assign' z_D) ?_)
    refine TL.nil ?_
    exact ⟨i + 1, ⟨b3, 0, [.int .i64 k, .string (bstr nm), s2], 3⟩ :: ⟨b2, 0, [.int .i64 0, .string ⟨#[]⟩, .slice none 0 0], 3⟩ :: ⟨b1, 0, [.int .i64 k, .string (bstr nm), .slice (some ⟨bx, ox, none⟩) ts.length c], 3⟩ :: (Ls2 ++ (Y_ ++ (Y ++ G))), _, (by simp only; omega), (.cons rfl .nil), (.cons rfl (.cons rfl (.cons rfl .nil))), z_A, ⟨s2, Ls2, Y_ ++ Y, _, by rw [List.append_assoc], by omega, hsl2, by rw [htk, hz_]; exact (hxs.more (by intro B_ hB_; simp only [List.mem_append, List.mem_cons, List.not_mem_nil, or_false] at hB_ ⊢; grind)).app (TmsR.one (hcy.more (by intro B_ hB_; simp only [List.mem_append, List.mem_cons, List.not_mem_nil, or_false] at hB_ ⊢; grind)))⟩⟩
  ·
    obtain rfl : i = ts.length := by omega
    rw [List.take_length] at hxs
    refine TL.nil ?_
    refine T.cond_f rfl ?_
    refine T.exit ?_
    refine T.seq ?_
    refine T.seq ?_
    refine T.region ?_
    refine TL.cons rfl (V1.t (V1.fieldAddr fl_29_0 rfl) ?_)
    refine TL.cons rfl (V1.t (V1.load1 one_3 rfl (.own z_C (by rfl))) ?_)
    rcases nrm_cases hsh with ⟨rfl, rfl, p, q, rfl, hnr⟩ | ⟨rfl, rfl, p, q, z, rfl, hq, hnr⟩ | ⟨rfl, rfl, p, q, kq, nq, aq, rfl, hq, hkq, hnr⟩ | ⟨hk6, hk7, hnr⟩
    rcases Classical.em (cmpT (nrm q) (nrm p) < 0) with hlt | hlt
    rotate_left 2
    rcases Classical.em (cmpT z (nrm p) < 0) with hlt | hlt
    rotate_left 4
    ·
      obtain ⟨bs, off, cap, size, rfl, hcap, hsize, rfl⟩ := hsl.blk (n := 2) hxs.len (by decide)
      obtain ⟨c0, c1, rfl, hc0, hc1⟩ := TmsR.two_inv (x := nrm p) (y := nrm q) hxs
      refine TL.cons rfl (V1.t (V1.eqI (r := false) rfl rfl (by first | decide | simp_all)) ?_)
      refine TL.cons rfl (V1.t (V1.move' z_D) ?_)
      refine TL.no rfl ?_
      refine TL.no rfl ?_
      refine TL.no rfl ?_
      refine TL.no rfl ?_
      refine TL.no rfl ?_
      refine TL.no rfl ?_
      refine TL.cons rfl (V1.t (V1.pick rfl z_D) ?_)
      refine TL.nil ?_
      refine T.cond_f rfl ?_
      refine T.skip ?_
      refine T.seq ?_
      refine T.seq ?_
      refine T.live (l := [(2, _), (3, _)]) (.cons z_D (.cons z_D .nil)) (fun e_ => ?_)
      refine T.drawDet' mixed (by decide +kernel) ?_
      refine Det.cons 0 (ins := [(3, _)]) (.old z_D (by decide +kernel) .nil) (fun e_ => .inl ⟨rfl, V1.t (V1.fieldAddr fl_29_0 rfl) ⟨rfl, rfl⟩⟩) ?_
      refine Det.cons 1 (ins := [(55, _)]) (.new 0 0 (by decide +kernel) rfl rfl .nil) (fun e_ => .inl ⟨rfl, V1.t (V1.load1 one_3 rfl (.own z_C (by rfl))) ⟨rfl, rfl⟩⟩) ?_
      refine Det.cons 2 (ins := [(56, _)]) (.new 1 0 (by decide +kernel) rfl rfl .nil) (fun e_ => .inl ⟨rfl, V1.t (V1.eqI (r := true) rfl rfl (by first | decide | simp_all)) ⟨rfl, rfl⟩⟩) ?_
      refine Det.cons 3 (ins := [(57, _)]) (.new 2 0 (by decide +kernel) rfl rfl .nil) (fun e_ => .inl ⟨rfl, V1.t (V1.move' z_D) ⟨rfl, rfl⟩⟩) ?_
      refine Det.cons 4 (ins := [(3, _), (58, _)]) (.old z_D (by decide +kernel) (.new 3 0 (by decide +kernel) rfl rfl .nil)) (fun e_ => .inl ⟨rfl, V1.t (V1.fieldAddr fl_29_2 rfl) ⟨rfl, rfl⟩⟩) ?_
      refine Det.cons 5 (ins := [(58, _), (59, _)]) (.new 3 1 (by decide +kernel) rfl rfl (.new 4 0 (by decide +kernel) rfl rfl .nil)) (fun e_ => .inl ⟨rfl, V1.t (V1.load1 one_27 rfl (.own z_C (by rfl))) ⟨rfl, rfl⟩⟩) ?_
      refine Det.cons 6 (ins := [(58, _), (60, _)]) (.new 3 2 (by decide +kernel) rfl rfl (.new 5 0 (by decide +kernel) rfl rfl .nil)) (fun e_ => .inl ⟨rfl, V1.t (V1.indexAddrS ty_27 sz_29 rfl rfl (by decide) (by decide)) ⟨rfl, rfl⟩⟩) ?_
      refine Det.cons 7 (ins := [(58, _), (61, _)]) (.new 3 3 (by decide +kernel) rfl rfl (.new 6 0 (by decide +kernel) rfl rfl .nil)) (fun e_ => .inl ⟨rfl, V1.t (V1.loadN (vs := c1) one_29 sz_29 rfl (RdN.mid2 (pre := c0) (cs := c1) (post := []) z_C (by rw [hc0.len]; rfl)) hc1.len) ⟨rfl, rfl⟩⟩) ?_
      refine Det.cons 8 (ins := [(3, _), (58, _)]) (.old z_D (by decide +kernel) (.new 3 4 (by decide +kernel) rfl rfl .nil)) (fun e_ => .inl ⟨rfl, V1.t (V1.fieldAddr fl_29_2 rfl) ⟨rfl, rfl⟩⟩) ?_
      refine Det.cons 9 (ins := [(58, _), (63, _)]) (.new 3 5 (by decide +kernel) rfl rfl (.new 8 0 (by decide +kernel) rfl rfl .nil)) (fun e_ => .inl ⟨rfl, V1.t (V1.load1 one_27 rfl (.own z_C (by rfl))) ⟨rfl, rfl⟩⟩) ?_
      refine Det.cons 10 (ins := [(58, _), (64, _)]) (.new 3 6 (by decide +kernel) rfl rfl (.new 9 0 (by decide +kernel) rfl rfl .nil)) (fun e_ => .inl ⟨rfl, V1.t (V1.indexAddrS ty_27 sz_29 rfl rfl (by decide) (by decide)) ⟨rfl, rfl⟩⟩) ?_
      refine Det.cons 11 (ins := [(58, _), (65, _)]) (.new 3 7 (by decide +kernel) rfl rfl (.new 10 0 (by decide +kernel) rfl rfl .nil)) (fun e_ => .inl ⟨rfl, V1.t (V1.loadN (vs := c0) one_29 sz_29 rfl (RdN.mid2 (pre := []) (cs := c0) (post := c1 ++ []) z_C rfl) hc0.len) ⟨rfl, rfl⟩⟩) ?_
      refine Det.cons 12 (ins := [(58, _), (62, _), (66, _)]) (v := .int .i64 (cmpT (nrm q) (nrm p))) (.new 3 8 (by decide +kernel) rfl rfl (.new 7 4 (by decide +kernel) rfl rfl (.new 11 0 (by decide +kernel) rfl rfl .nil))) (fun e_ => .inl ⟨rfl, ?_⟩) ?_
      · refine T1.callV has_16 rfl rfl (RCompare_any w0 (nrm q) (nrm p) (Y ++ Ps) _ _ hc1 hc0) z_E (fun v_ hv => ?_)
        obtain rfl := hv
        exact ⟨rfl, rfl⟩
      refine Det.cons 13 (ins := [(58, _), (67, _)]) (.new 3 9 (by decide +kernel) rfl rfl (.new 12 0 (by decide +kernel) rfl rfl .nil)) (fun e_ => .inl ⟨rfl, V1.t (V1.ltI (r := true) rfl rfl (decide_eq_true hlt)) ⟨rfl, rfl⟩⟩) ?_
      refine Det.cons 14 (ins := [(58, _), (68, _)]) (.new 3 10 (by decide +kernel) rfl rfl (.new 13 0 (by decide +kernel) rfl rfl .nil)) (fun e_ => .inl ⟨rfl, V1.t (V1.pick rfl z_D) ⟨rfl, rfl⟩⟩) ?_
      refine Det.nil 15 (l := [(2, _), (3, _), (69, _)]) (.old z_D (by decide +kernel) (.old z_D (by decide +kernel) (.new 14 0 (by decide +kernel) rfl rfl .nil))) (fun e_ => ?_)
      refine T.cond_t rfl ?_
      refine T.drawTail 8 mixed (by decide +kernel) (by rfl) (by decide +kernel) rfl ?_
      refine Det.cons 0 (ins := [(3, _)]) (.old z_D (by decide +kernel) .nil) (fun e_ => .inl ⟨rfl, V1.t (V1.fieldAddr fl_29_2 rfl) ⟨rfl, rfl⟩⟩) ?_
      refine Det.cons 1 (ins := [(70, _)]) (.new 0 0 (by decide +kernel) rfl rfl .nil) (fun e_ => .inl ⟨rfl, V1.t (V1.load1 one_27 rfl (.own z_C (by rfl))) ⟨rfl, rfl⟩⟩) ?_
      refine Det.cons 2 (ins := [(71, _)]) (.new 1 0 (by decide +kernel) rfl rfl .nil) (fun e_ => .inl ⟨rfl, V1.t (V1.indexAddrS ty_27 sz_29 rfl rfl (by decide) (by decide)) ⟨rfl, rfl⟩⟩) ?_
      refine Det.cons 3 (ins := [(72, _)]) (.new 2 0 (by decide +kernel) rfl rfl .nil) (fun e_ => .inl ⟨rfl, V1.t (V1.loadN (vs := c1) one_29 sz_29 rfl (RdN.mid2 (pre := c0) (cs := c1) (post := []) z_C (by rw [hc0.len]; rfl)) hc1.len) ⟨rfl, rfl⟩⟩) ?_
      refine Det.cons 4 (ins := [(3, _)]) (.old z_D (by decide +kernel) .nil) (fun e_ => .inl ⟨rfl, V1.t (V1.fieldAddr fl_29_2 rfl) ⟨rfl, rfl⟩⟩) ?_
      refine Det.cons 5 (ins := [(74, _)]) (.new 4 0 (by decide +kernel) rfl rfl .nil) (fun e_ => .inl ⟨rfl, V1.t (V1.load1 one_27 rfl (.own z_C (by rfl))) ⟨rfl, rfl⟩⟩) ?_
      refine Det.cons 6 (ins := [(75, _)]) (.new 5 0 (by decide +kernel) rfl rfl .nil) (fun e_ => .inl ⟨rfl, V1.t (V1.indexAddrS ty_27 sz_29 rfl rfl (by decide) (by decide)) ⟨rfl, rfl⟩⟩) ?_
      refine Det.cons 7 (ins := [(76, _)]) (.new 6 0 (by decide +kernel) rfl rfl .nil) (fun e_ => .inl ⟨rfl, V1.t (V1.loadN (vs := c0) one_29 sz_29 rfl (RdN.mid2 (pre := []) (cs := c0) (post := c1 ++ []) z_C rfl) hc0.len) ⟨rfl, rfl⟩⟩) ?_
      refine Det.nil 8 (l := [(2, _), (3, _), (73, _), (77, _)]) (.old z_D (by decide +kernel) (.old z_D (by decide +kernel) (.new 3 4 (by decide +kernel) rfl rfl (.new 7 0 (by decide +kernel) rfl rfl .nil)))) (fun e_ => ?_)
      refine (show TU _ _ _ 3 _ _ _ from ?_)
      refine TU.one 8 (by decide +kernel) rfl rfl (T1.buildTwo (cs := c1) (ds := c0) ty_27 sz_29 zr_29 (by decide) rfl rfl hc1.len hc0.len (fun b78 => ?_))
      refine TU.one 9 (by decide +kernel) rfl rfl (V1.t (V1.fieldAddr fl_29_2 rfl) ?_)
      refine TU.one 10 (by decide +kernel) rfl rfl (T1.store1 rfl rfl sz_27 rfl z_G (Nat.zero_le _) z_H ?_)
      refine TU.done (by decide +kernel) ?_
      refine T.seq ?_
      refine T.region ?_
      refine TL.cons rfl (V1.t (V1.loadN one_29 sz_29 rfl (RdN.whole z_C) (by rfl)) ?_)
      refine TL.cons rfl (T1.storeN rfl rfl sz_29 (ones rfl) z_G (by rfl) (by rfl) ?_)
      refine TL.nil ?_
      refine T.ret ?_
      rw [hnr, two_lt hlt]
      exact ⟨_, ⟨⟨b78, some 29⟩, 0, c1 ++ c0, 2 * 3⟩ :: (Y ++ G), _, .cons (.cellN z_D one_29 sz_29 (RdN.whole z_C) (by rfl)) .nil, z_A, ⟨⟨b78, some 29⟩, 0, c1 ++ c0, 2 * 3⟩ :: Y, rfl, _, rfl, TmR.mkN (n := 2) (vs := c1 ++ c0) rfl (RowR.own (List.mem_cons_self ..) (by simp [hc0.len, hc1.len])) (by decide) (TmsR.more (Inc.skip1 Inc.refl) (TmsR.cons hc1 (TmsR.one hc0)))⟩
    ·
      obtain ⟨bs, off, cap, size, rfl, hcap, hsize, rfl⟩ := hsl.blk (n := 2) hxs.len (by decide)
      obtain ⟨c0, c1, rfl, hc0, hc1⟩ := TmsR.two_inv (x := nrm p) (y := nrm q) hxs
      refine TL.cons rfl (V1.t (V1.eqI (r := false) rfl rfl (by first | decide | simp_all)) ?_)
      refine TL.cons rfl (V1.t (V1.move' z_D) ?_)
      refine TL.no rfl ?_
      refine TL.no rfl ?_
      refine TL.no rfl ?_
      refine TL.no rfl ?_
      refine TL.no rfl ?_
      refine TL.no rfl ?_
      refine TL.cons rfl (V1.t (V1.pick rfl z_D) ?_)
      refine TL.nil ?_
      refine T.cond_f rfl ?_
      refine T.skip ?_
      refine T.seq ?_
      refine T.seq ?_
      refine T.live (l := [(2, _), (3, _)]) (.cons z_D (.cons z_D .nil)) (fun e_ => ?_)
      refine T.drawDet' mixed (by decide +kernel) ?_
      refine Det.cons 0 (ins := [(3, _)]) (.old z_D (by decide +kernel) .nil) (fun e_ => .inl ⟨rfl, V1.t (V1.fieldAddr fl_29_0 rfl) ⟨rfl, rfl⟩⟩) ?_
      refine Det.cons 1 (ins := [(55, _)]) (.new 0 0 (by decide +kernel) rfl rfl .nil) (fun e_ => .inl ⟨rfl, V1.t (V1.load1 one_3 rfl (.own z_C (by rfl))) ⟨rfl, rfl⟩⟩) ?_
      refine Det.cons 2 (ins := [(56, _)]) (.new 1 0 (by decide +kernel) rfl rfl .nil) (fun e_ => .inl ⟨rfl, V1.t (V1.eqI (r := true) rfl rfl (by first | decide | simp_all)) ⟨rfl, rfl⟩⟩) ?_
      refine Det.cons 3 (ins := [(57, _)]) (.new 2 0 (by decide +kernel) rfl rfl .nil) (fun e_ => .inl ⟨rfl, V1.t (V1.move' z_D) ⟨rfl, rfl⟩⟩) ?_
      refine Det.cons 4 (ins := [(3, _), (58, _)]) (.old z_D (by decide +kernel) (.new 3 0 (by decide +kernel) rfl rfl .nil)) (fun e_ => .inl ⟨rfl, V1.t (V1.fieldAddr fl_29_2 rfl) ⟨rfl, rfl⟩⟩) ?_
      refine Det.cons 5 (ins := [(58, _), (59, _)]) (.new 3 1 (by decide +kernel) rfl rfl (.new 4 0 (by decide +kernel) rfl rfl .nil)) (fun e_ => .inl ⟨rfl, V1.t (V1.load1 one_27 rfl (.own z_C (by rfl))) ⟨rfl, rfl⟩⟩) ?_
      refine Det.cons 6 (ins := [(58, _), (60, _)]) (.new 3 2 (by decide +kernel) rfl rfl (.new 5 0 (by decide +kernel) rfl rfl .nil)) (fun e_ => .inl ⟨rfl, V1.t (V1.indexAddrS ty_27 sz_29 rfl rfl (by decide) (by decide)) ⟨rfl, rfl⟩⟩) ?_
      refine Det.cons 7 (ins := [(58, _), (61, _)]) (.new 3 3 (by decide +kernel) rfl rfl (.new 6 0 (by decide +kernel) rfl rfl .nil)) (fun e_ => .inl ⟨rfl, V1.t (V1.loadN (vs := c1) one_29 sz_29 rfl (RdN.mid2 (pre := c0) (cs := c1) (post := []) z_C (by rw [hc0.len]; rfl)) hc1.len) ⟨rfl, rfl⟩⟩) ?_
      refine Det.cons 8 (ins := [(3, _), (58, _)]) (.old z_D (by decide +kernel) (.new 3 4 (by decide +kernel) rfl rfl .nil)) (fun e_ => .inl ⟨rfl, V1.t (V1.fieldAddr fl_29_2 rfl) ⟨rfl, rfl⟩⟩) ?_
      refine Det.cons 9 (ins := [(58, _), (63, _)]) (.new 3 5 (by decide +kernel) rfl rfl (.new 8 0 (by decide +kernel) rfl rfl .nil)) (fun e_ => .inl ⟨rfl, V1.t (V1.load1 one_27 rfl (.own z_C (by rfl))) ⟨rfl, rfl⟩⟩) ?_
      refine Det.cons 10 (ins := [(58, _), (64, _)]) (.new 3 6 (by decide +kernel) rfl rfl (.new 9 0 (by decide +kernel) rfl rfl .nil)) (fun e_ => .inl ⟨rfl, V1.t (V1.indexAddrS ty_27 sz_29 rfl rfl (by decide) (by decide)) ⟨rfl, rfl⟩⟩) ?_
      refine Det.cons 11 (ins := [(58, _), (65, _)]) (.new 3 7 (by decide +kernel) rfl rfl (.new 10 0 (by decide +kernel) rfl rfl .nil)) (fun e_ => .inl ⟨rfl, V1.t (V1.loadN (vs := c0) one_29 sz_29 rfl (RdN.mid2 (pre := []) (cs := c0) (post := c1 ++ []) z_C rfl) hc0.len) ⟨rfl, rfl⟩⟩) ?_
      refine Det.cons 12 (ins := [(58, _), (62, _), (66, _)]) (v := .int .i64 (cmpT (nrm q) (nrm p))) (.new 3 8 (by decide +kernel) rfl rfl (.new 7 4 (by decide +kernel) rfl rfl (.new 11 0 (by decide +kernel) rfl rfl .nil))) (fun e_ => .inl ⟨rfl, ?_⟩) ?_
      · refine T1.callV has_16 rfl rfl (RCompare_any w0 (nrm q) (nrm p) (Y ++ Ps) _ _ hc1 hc0) z_E (fun v_ hv => ?_)
        obtain rfl := hv
        exact ⟨rfl, rfl⟩
      refine Det.cons 13 (ins := [(58, _), (67, _)]) (.new 3 9 (by decide +kernel) rfl rfl (.new 12 0 (by decide +kernel) rfl rfl .nil)) (fun e_ => .inl ⟨rfl, V1.t (V1.ltI (r := false) rfl rfl (decide_eq_false hlt)) ⟨rfl, rfl⟩⟩) ?_
      refine Det.cons 14 (ins := [(58, _), (68, _)]) (.new 3 10 (by decide +kernel) rfl rfl (.new 13 0 (by decide +kernel) rfl rfl .nil)) (fun e_ => .inl ⟨rfl, V1.t (V1.pick rfl z_D) ⟨rfl, rfl⟩⟩) ?_
      refine Det.nil 15 (l := [(2, _), (3, _), (69, _)]) (.old z_D (by decide +kernel) (.old z_D (by decide +kernel) (.new 14 0 (by decide +kernel) rfl rfl .nil))) (fun e_ => ?_)
      refine T.cond_f rfl ?_
      refine T.skip ?_
      refine T.seq ?_
      refine T.region ?_
      refine TL.cons rfl (V1.t (V1.loadN one_29 sz_29 rfl (RdN.whole z_C) (by rfl)) ?_)
      refine TL.cons rfl (T1.storeN rfl rfl sz_29 (ones rfl) z_G (by rfl) (by rfl) ?_)
      refine TL.nil ?_
      refine T.ret ?_
      rw [hnr, two_ge hlt]
      exact ⟨_, ⟨⟨bs, some 29⟩, off, c0 ++ (c1 ++ []), size⟩ :: (Y ++ G), _, .cons (.cellN z_D one_29 sz_29 (RdN.whole z_C) (by rfl)) .nil, z_A, ⟨⟨bs, some 29⟩, off, c0 ++ (c1 ++ []), size⟩ :: Y, rfl, _, rfl, TmR.mkN (n := 2) (vs := c0 ++ (c1 ++ [])) rfl (RowR.own (List.mem_cons_self ..) (by simp [hc0.len, hc1.len])) (by decide) (TmsR.more (Inc.skip1 Inc.refl) hxs)⟩
    ·
      obtain ⟨bs, off, cap, size, rfl, hcap, hsize, rfl⟩ := hsl.blk (n := 2) hxs.len (by decide)
      obtain ⟨c0, c1, rfl, hc0, hc1⟩ := TmsR.two_inv (x := nrm p) (y := nrm q) hxs
      rw [hq] at hc1
      obtain ⟨aa, cq, vq, rfl, hrq, hlq, htq⟩ := hc1.inv
      obtain ⟨bz, oz, cz, rfl, hz, hrdz⟩ := RowR.term (i := 0) (x := z) hrq htq rfl P
      simp only [List.length_singleton] at *
      refine TL.cons rfl (V1.t (V1.eqI (r := true) rfl rfl (by first | decide | simp_all)) ?_)
      refine TL.cons rfl (V1.t (V1.move' z_D) ?_)
      refine TL.cons rfl (V1.t (V1.fieldAddr fl_29_2 rfl) ?_)
      refine TL.cons rfl (V1.t (V1.load1 one_27 rfl (.own z_C (by rfl))) ?_)
      refine TL.cons rfl (V1.t (V1.indexAddrS ty_27 sz_29 rfl rfl (by decide) (by decide)) ?_)
      refine TL.cons rfl (V1.t (V1.fieldAddr fl_29_0 rfl) ?_)
      refine TL.cons rfl (V1.t (V1.load1 (v := Value.int .i64 5) one_3 rfl (Rd.mid2 (pre := c0) (cs := [Value.int .i64 5, Value.string (bstr []), Value.slice (some ⟨bz, oz, none⟩) 1 cq]) (post := []) (i := 0) z_C rfl (by rw [hc0.len]; rfl))) ?_)
      refine TL.cons rfl (V1.t (V1.eqI (r := true) rfl rfl (by first | decide | simp_all)) ?_)
      refine TL.cons rfl (V1.t (V1.pick rfl z_D) ?_)
      refine TL.nil ?_
      refine T.cond_t rfl ?_
      refine T.seq ?_
      refine T.live (l := [(2, _), (3, _)]) (.cons z_D (.cons z_D .nil)) (fun e_ => ?_)
      refine T.region ?_
      refine TL.cons rfl (V1.t (V1.fieldAddr fl_29_0 rfl) ?_)
      refine TL.cons rfl (T1.store1 rfl rfl sz_3 rfl z_G (Nat.zero_le _) z_H ?_)
      refine TL.nil ?_
      refine T.drawTail 11 mixed (by decide +kernel) (by rfl) (by decide +kernel) rfl ?_
      refine Det.cons 0 (ins := [(3, _)]) (.old z_D (by decide +kernel) .nil) (fun e_ => .inl ⟨rfl, V1.t (V1.fieldAddr fl_29_2 rfl) ⟨rfl, rfl⟩⟩) ?_
      refine Det.cons 1 (ins := [(42, _)]) (.new 0 0 (by decide +kernel) rfl rfl .nil) (fun e_ => .inl ⟨rfl, V1.t (V1.load1 one_27 rfl (.own z_C (by rfl))) ⟨rfl, rfl⟩⟩) ?_
      refine Det.cons 2 (ins := [(43, _)]) (.new 1 0 (by decide +kernel) rfl rfl .nil) (fun e_ => .inl ⟨rfl, V1.t (V1.indexAddrS ty_27 sz_29 rfl rfl (by decide) (by decide)) ⟨rfl, rfl⟩⟩) ?_
      refine Det.cons 3 (ins := [(44, _)]) (.new 2 0 (by decide +kernel) rfl rfl .nil) (fun e_ => .inl ⟨rfl, V1.t (V1.loadN (vs := c0) one_29 sz_29 rfl (RdN.mid2 (pre := []) (cs := c0) (post := [Value.int .i64 5, Value.string (bstr []), Value.slice (some ⟨bz, oz, none⟩) 1 cq] ++ []) z_C rfl) hc0.len) ⟨rfl, rfl⟩⟩) ?_
      refine Det.cons 4 (ins := [(3, _)]) (.old z_D (by decide +kernel) .nil) (fun e_ => .inl ⟨rfl, V1.t (V1.fieldAddr fl_29_2 rfl) ⟨rfl, rfl⟩⟩) ?_
      refine Det.cons 5 (ins := [(46, _)]) (.new 4 0 (by decide +kernel) rfl rfl .nil) (fun e_ => .inl ⟨rfl, V1.t (V1.load1 one_27 rfl (.own z_C (by rfl))) ⟨rfl, rfl⟩⟩) ?_
      refine Det.cons 6 (ins := [(47, _)]) (.new 5 0 (by decide +kernel) rfl rfl .nil) (fun e_ => .inl ⟨rfl, V1.t (V1.indexAddrS ty_27 sz_29 rfl rfl (by decide) (by decide)) ⟨rfl, rfl⟩⟩) ?_
      refine Det.cons 7 (ins := [(48, _)]) (.new 6 0 (by decide +kernel) rfl rfl .nil) (fun e_ => .inl ⟨rfl, V1.t (V1.fieldAddr fl_29_2 rfl) ⟨rfl, rfl⟩⟩) ?_
      refine Det.cons 8 (ins := [(49, _)]) (.new 7 0 (by decide +kernel) rfl rfl .nil) (fun e_ => .inl ⟨rfl, V1.t (V1.load1 (v := .slice (some ⟨bz, oz, none⟩) 1 cq) one_27 rfl (Rd.mid2 (pre := c0) (cs := [Value.int .i64 5, Value.string (bstr []), Value.slice (some ⟨bz, oz, none⟩) 1 cq]) (post := []) (i := 2) z_C rfl (by rw [hc0.len]; rfl))) ⟨rfl, rfl⟩⟩) ?_
      refine Det.cons 9 (ins := [(50, _)]) (.new 8 0 (by decide +kernel) rfl rfl .nil) (fun e_ => .inl ⟨rfl, V1.t (V1.indexAddrS ty_27 sz_29 rfl rfl (by decide) (by decide)) ⟨rfl, rfl⟩⟩) ?_
      refine Det.cons 10 (ins := [(51, _)]) (.new 9 0 (by decide +kernel) rfl rfl .nil) (fun e_ => .inl ⟨rfl, V1.t (V1.loadN (vs := cz) one_29 sz_29 rfl (hrdz _ rfl rfl _ z_E) hz.len) ⟨rfl, rfl⟩⟩) ?_
      refine Det.nil 11 (l := [(2, _), (3, _), (45, _), (52, _)]) (.old z_D (by decide +kernel) (.old z_D (by decide +kernel) (.new 3 7 (by decide +kernel) rfl rfl (.new 10 0 (by decide +kernel) rfl rfl .nil)))) (fun e_ => ?_)
      refine (show TU _ _ _ 3 _ _ _ from ?_)
      refine TU.one 11 (by decide +kernel) rfl rfl (T1.buildTwo (cs := c0) (ds := cz) ty_27 sz_29 zr_29 (by decide) rfl rfl hc0.len hz.len (fun b53 => ?_))
      refine TU.one 12 (by decide +kernel) rfl rfl (V1.t (V1.fieldAddr fl_29_2 rfl) ?_)
      refine TU.one 13 (by decide +kernel) rfl rfl (T1.store1 rfl rfl sz_27 rfl z_G (Nat.zero_le _) z_H ?_)
      refine TU.done (by decide +kernel) ?_
      refine T.seq ?_
      refine T.seq ?_
      refine T.drawDet' mixed (by decide +kernel) ?_
      refine Det.cons 0 (ins := [(3, _)]) (.old z_D (by decide +kernel) .nil) (fun e_ => .inl ⟨rfl, V1.t (V1.fieldAddr fl_29_0 rfl) ⟨rfl, rfl⟩⟩) ?_
      refine Det.cons 1 (ins := [(55, _)]) (.new 0 0 (by decide +kernel) rfl rfl .nil) (fun e_ => .inl ⟨rfl, V1.t (V1.load1 one_3 rfl (.own z_C (by rfl))) ⟨rfl, rfl⟩⟩) ?_
      refine Det.cons 2 (ins := [(56, _)]) (.new 1 0 (by decide +kernel) rfl rfl .nil) (fun e_ => .inl ⟨rfl, V1.t (V1.eqI (r := true) rfl rfl (by first | decide | simp_all)) ⟨rfl, rfl⟩⟩) ?_
      refine Det.cons 3 (ins := [(57, _)]) (.new 2 0 (by decide +kernel) rfl rfl .nil) (fun e_ => .inl ⟨rfl, V1.t (V1.move' z_D) ⟨rfl, rfl⟩⟩) ?_
      refine Det.cons 4 (ins := [(3, _), (58, _)]) (.old z_D (by decide +kernel) (.new 3 0 (by decide +kernel) rfl rfl .nil)) (fun e_ => .inl ⟨rfl, V1.t (V1.fieldAddr fl_29_2 rfl) ⟨rfl, rfl⟩⟩) ?_
      refine Det.cons 5 (ins := [(58, _), (59, _)]) (.new 3 1 (by decide +kernel) rfl rfl (.new 4 0 (by decide +kernel) rfl rfl .nil)) (fun e_ => .inl ⟨rfl, V1.t (V1.load1 one_27 rfl (.own z_C (by rfl))) ⟨rfl, rfl⟩⟩) ?_
      refine Det.cons 6 (ins := [(58, _), (60, _)]) (.new 3 2 (by decide +kernel) rfl rfl (.new 5 0 (by decide +kernel) rfl rfl .nil)) (fun e_ => .inl ⟨rfl, V1.t (V1.indexAddrS ty_27 sz_29 rfl rfl (by decide) (by decide)) ⟨rfl, rfl⟩⟩) ?_
      refine Det.cons 7 (ins := [(58, _), (61, _)]) (.new 3 3 (by decide +kernel) rfl rfl (.new 6 0 (by decide +kernel) rfl rfl .nil)) (fun e_ => .inl ⟨rfl, V1.t (V1.loadN (vs := cz) one_29 sz_29 rfl (RdN.mid3 (pre := c0) (cs := cz) z_C (by rw [hc0.len]; rfl)) hz.len) ⟨rfl, rfl⟩⟩) ?_
      refine Det.cons 8 (ins := [(3, _), (58, _)]) (.old z_D (by decide +kernel) (.new 3 4 (by decide +kernel) rfl rfl .nil)) (fun e_ => .inl ⟨rfl, V1.t (V1.fieldAddr fl_29_2 rfl) ⟨rfl, rfl⟩⟩) ?_
      refine Det.cons 9 (ins := [(58, _), (63, _)]) (.new 3 5 (by decide +kernel) rfl rfl (.new 8 0 (by decide +kernel) rfl rfl .nil)) (fun e_ => .inl ⟨rfl, V1.t (V1.load1 one_27 rfl (.own z_C (by rfl))) ⟨rfl, rfl⟩⟩) ?_
      refine Det.cons 10 (ins := [(58, _), (64, _)]) (.new 3 6 (by decide +kernel) rfl rfl (.new 9 0 (by decide +kernel) rfl rfl .nil)) (fun e_ => .inl ⟨rfl, V1.t (V1.indexAddrS ty_27 sz_29 rfl rfl (by decide) (by decide)) ⟨rfl, rfl⟩⟩) ?_
      refine Det.cons 11 (ins := [(58, _), (65, _)]) (.new 3 7 (by decide +kernel) rfl rfl (.new 10 0 (by decide +kernel) rfl rfl .nil)) (fun e_ => .inl ⟨rfl, V1.t (V1.loadN (vs := c0) one_29 sz_29 rfl (RdN.mid2 (pre := []) (cs := c0) (post := cz) z_C rfl) hc0.len) ⟨rfl, rfl⟩⟩) ?_
      refine Det.cons 12 (ins := [(58, _), (62, _), (66, _)]) (v := .int .i64 (cmpT z (nrm p))) (.new 3 8 (by decide +kernel) rfl rfl (.new 7 4 (by decide +kernel) rfl rfl (.new 11 0 (by decide +kernel) rfl rfl .nil))) (fun e_ => .inl ⟨rfl, ?_⟩) ?_
      · refine T1.callV has_16 rfl rfl (RCompare_any w0 z (nrm p) (Y ++ Ps) _ _ hz hc0) z_E (fun v_ hv => ?_)
        obtain rfl := hv
        exact ⟨rfl, rfl⟩
      refine Det.cons 13 (ins := [(58, _), (67, _)]) (.new 3 9 (by decide +kernel) rfl rfl (.new 12 0 (by decide +kernel) rfl rfl .nil)) (fun e_ => .inl ⟨rfl, V1.t (V1.ltI (r := true) rfl rfl (decide_eq_true hlt)) ⟨rfl, rfl⟩⟩) ?_
      refine Det.cons 14 (ins := [(58, _), (68, _)]) (.new 3 10 (by decide +kernel) rfl rfl (.new 13 0 (by decide +kernel) rfl rfl .nil)) (fun e_ => .inl ⟨rfl, V1.t (V1.pick rfl z_D) ⟨rfl, rfl⟩⟩) ?_
      refine Det.nil 15 (l := [(2, _), (3, _), (69, _)]) (.old z_D (by decide +kernel) (.old z_D (by decide +kernel) (.new 14 0 (by decide +kernel) rfl rfl .nil))) (fun e_ => ?_)
      refine T.cond_t rfl ?_
      refine T.drawTail 8 mixed (by decide +kernel) (by rfl) (by decide +kernel) rfl ?_
      refine Det.cons 0 (ins := [(3, _)]) (.old z_D (by decide +kernel) .nil) (fun e_ => .inl ⟨rfl, V1.t (V1.fieldAddr fl_29_2 rfl) ⟨rfl, rfl⟩⟩) ?_
      refine Det.cons 1 (ins := [(70, _)]) (.new 0 0 (by decide +kernel) rfl rfl .nil) (fun e_ => .inl ⟨rfl, V1.t (V1.load1 one_27 rfl (.own z_C (by rfl))) ⟨rfl, rfl⟩⟩) ?_
      refine Det.cons 2 (ins := [(71, _)]) (.new 1 0 (by decide +kernel) rfl rfl .nil) (fun e_ => .inl ⟨rfl, V1.t (V1.indexAddrS ty_27 sz_29 rfl rfl (by decide) (by decide)) ⟨rfl, rfl⟩⟩) ?_
      refine Det.cons 3 (ins := [(72, _)]) (.new 2 0 (by decide +kernel) rfl rfl .nil) (fun e_ => .inl ⟨rfl, V1.t (V1.loadN (vs := cz) one_29 sz_29 rfl (RdN.mid3 (pre := c0) (cs := cz) z_C (by rw [hc0.len]; rfl)) hz.len) ⟨rfl, rfl⟩⟩) ?_
      refine Det.cons 4 (ins := [(3, _)]) (.old z_D (by decide +kernel) .nil) (fun e_ => .inl ⟨rfl, V1.t (V1.fieldAddr fl_29_2 rfl) ⟨rfl, rfl⟩⟩) ?_
      refine Det.cons 5 (ins := [(74, _)]) (.new 4 0 (by decide +kernel) rfl rfl .nil) (fun e_ => .inl ⟨rfl, V1.t (V1.load1 one_27 rfl (.own z_C (by rfl))) ⟨rfl, rfl⟩⟩) ?_
      refine Det.cons 6 (ins := [(75, _)]) (.new 5 0 (by decide +kernel) rfl rfl .nil) (fun e_ => .inl ⟨rfl, V1.t (V1.indexAddrS ty_27 sz_29 rfl rfl (by decide) (by decide)) ⟨rfl, rfl⟩⟩) ?_
      refine Det.cons 7 (ins := [(76, _)]) (.new 6 0 (by decide +kernel) rfl rfl .nil) (fun e_ => .inl ⟨rfl, V1.t (V1.loadN (vs := c0) one_29 sz_29 rfl (RdN.mid2 (pre := []) (cs := c0) (post := cz) z_C rfl) hc0.len) ⟨rfl, rfl⟩⟩) ?_
      refine Det.nil 8 (l := [(2, _), (3, _), (73, _), (77, _)]) (.old z_D (by decide +kernel) (.old z_D (by decide +kernel) (.new 3 4 (by decide +kernel) rfl rfl (.new 7 0 (by decide +kernel) rfl rfl .nil)))) (fun e_ => ?_)
      refine (show TU _ _ _ 3 _ _ _ from ?_)
      refine TU.one 8 (by decide +kernel) rfl rfl (T1.buildTwo (cs := cz) (ds := c0) ty_27 sz_29 zr_29 (by decide) rfl rfl hz.len hc0.len (fun b78 => ?_))
      refine TU.one 9 (by decide +kernel) rfl rfl (V1.t (V1.fieldAddr fl_29_2 rfl) ?_)
      refine TU.one 10 (by decide +kernel) rfl rfl (T1.store1 rfl rfl sz_27 rfl z_G (Nat.zero_le _) z_H ?_)
      refine TU.done (by decide +kernel) ?_
      refine T.seq ?_
      refine T.region ?_
      refine TL.cons rfl (V1.t (V1.loadN one_29 sz_29 rfl (RdN.whole z_C) (by rfl)) ?_)
      refine TL.cons rfl (T1.storeN rfl rfl sz_29 (ones rfl) z_G (by rfl) (by rfl) ?_)
      refine TL.nil ?_
      refine T.ret ?_
      rw [hnr, two_lt hlt]
      exact ⟨_, ⟨⟨b78, some 29⟩, 0, cz ++ c0, 2 * 3⟩ :: (Y ++ G), _, .cons (.cellN z_D one_29 sz_29 (RdN.whole z_C) (by rfl)) .nil, z_A, ⟨⟨b78, some 29⟩, 0, cz ++ c0, 2 * 3⟩ :: Y, rfl, _, rfl, TmR.mkN (n := 2) (vs := cz ++ c0) rfl (RowR.own (List.mem_cons_self ..) (by simp [hc0.len, hz.len])) (by decide) (TmsR.more (Inc.skip1 Inc.refl) (TmsR.cons hz (TmsR.one hc0)))⟩
    ·
      obtain ⟨bs, off, cap, size, rfl, hcap, hsize, rfl⟩ := hsl.blk (n := 2) hxs.len (by decide)
      obtain ⟨c0, c1, rfl, hc0, hc1⟩ := TmsR.two_inv (x := nrm p) (y := nrm q) hxs
      rw [hq] at hc1
      obtain ⟨aa, cq, vq, rfl, hrq, hlq, htq⟩ := hc1.inv
      obtain ⟨bz, oz, cz, rfl, hz, hrdz⟩ := RowR.term (i := 0) (x := z) hrq htq rfl P
      simp only [List.length_singleton] at *
      refine TL.cons rfl (V1.t (V1.eqI (r := true) rfl rfl (by first | decide | simp_all)) ?_)
      refine TL.cons rfl (V1.t (V1.move' z_D) ?_)
      refine TL.cons rfl (V1.t (V1.fieldAddr fl_29_2 rfl) ?_)
      refine TL.cons rfl (V1.t (V1.load1 one_27 rfl (.own z_C (by rfl))) ?_)
      refine TL.cons rfl (V1.t (V1.indexAddrS ty_27 sz_29 rfl rfl (by decide) (by decide)) ?_)
      refine TL.cons rfl (V1.t (V1.fieldAddr fl_29_0 rfl) ?_)
      refine TL.cons rfl (V1.t (V1.load1 (v := Value.int .i64 5) one_3 rfl (Rd.mid2 (pre := c0) (cs := [Value.int .i64 5, Value.string (bstr []), Value.slice (some ⟨bz, oz, none⟩) 1 cq]) (post := []) (i := 0) z_C rfl (by rw [hc0.len]; rfl))) ?_)
      refine TL.cons rfl (V1.t (V1.eqI (r := true) rfl rfl (by first | decide | simp_all)) ?_)
      refine TL.cons rfl (V1.t (V1.pick rfl z_D) ?_)
      refine TL.nil ?_
      refine T.cond_t rfl ?_
      refine T.seq ?_
      refine T.live (l := [(2, _), (3, _)]) (.cons z_D (.cons z_D .nil)) (fun e_ => ?_)
      refine T.region ?_
      refine TL.cons rfl (V1.t (V1.fieldAddr fl_29_0 rfl) ?_)
      refine TL.cons rfl (T1.store1 rfl rfl sz_3 rfl z_G (Nat.zero_le _) z_H ?_)
      refine TL.nil ?_
      refine T.drawTail 11 mixed (by decide +kernel) (by rfl) (by decide +kernel) rfl ?_
      refine Det.cons 0 (ins := [(3, _)]) (.old z_D (by decide +kernel) .nil) (fun e_ => .inl ⟨rfl, V1.t (V1.fieldAddr fl_29_2 rfl) ⟨rfl, rfl⟩⟩) ?_
      refine Det.cons 1 (ins := [(42, _)]) (.new 0 0 (by decide +kernel) rfl rfl .nil) (fun e_ => .inl ⟨rfl, V1.t (V1.load1 one_27 rfl (.own z_C (by rfl))) ⟨rfl, rfl⟩⟩) ?_
      refine Det.cons 2 (ins := [(43, _)]) (.new 1 0 (by decide +kernel) rfl rfl .nil) (fun e_ => .inl ⟨rfl, V1.t (V1.indexAddrS ty_27 sz_29 rfl rfl (by decide) (by decide)) ⟨rfl, rfl⟩⟩) ?_
      refine Det.cons 3 (ins := [(44, _)]) (.new 2 0 (by decide +kernel) rfl rfl .nil) (fun e_ => .inl ⟨rfl, V1.t (V1.loadN (vs := c0) one_29 sz_29 rfl (RdN.mid2 (pre := []) (cs := c0) (post := [Value.int .i64 5, Value.string (bstr []), Value.slice (some ⟨bz, oz, none⟩) 1 cq] ++ []) z_C rfl) hc0.len) ⟨rfl, rfl⟩⟩) ?_
      refine Det.cons 4 (ins := [(3, _)]) (.old z_D (by decide +kernel) .nil) (fun e_ => .inl ⟨rfl, V1.t (V1.fieldAddr fl_29_2 rfl) ⟨rfl, rfl⟩⟩) ?_
      refine Det.cons 5 (ins := [(46, _)]) (.new 4 0 (by decide +kernel) rfl rfl .nil) (fun e_ => .inl ⟨rfl, V1.t (V1.load1 one_27 rfl (.own z_C (by rfl))) ⟨rfl, rfl⟩⟩) ?_
      refine Det.cons 6 (ins := [(47, _)]) (.new 5 0 (by decide +kernel) rfl rfl .nil) (fun e_ => .inl ⟨rfl, V1.t (V1.indexAddrS ty_27 sz_29 rfl rfl (by decide) (by decide)) ⟨rfl, rfl⟩⟩) ?_
      refine Det.cons 7 (ins := [(48, _)]) (.new 6 0 (by decide +kernel) rfl rfl .nil) (fun e_ => .inl ⟨rfl, V1.t (V1.fieldAddr fl_29_2 rfl) ⟨rfl, rfl⟩⟩) ?_
      refine Det.cons 8 (ins := [(49, _)]) (.new 7 0 (by decide +kernel) rfl rfl .nil) (fun e_ => .inl ⟨rfl, V1.t (V1.load1 (v := .slice (some ⟨bz, oz, none⟩) 1 cq) one_27 rfl (Rd.mid2 (pre := c0) (cs := [Value.int .i64 5, Value.string (bstr []), Value.slice (some ⟨bz, oz, none⟩) 1 cq]) (post := []) (i := 2) z_C rfl (by rw [hc0.len]; rfl))) ⟨rfl, rfl⟩⟩) ?_
      refine Det.cons 9 (ins := [(50, _)]) (.new 8 0 (by decide +kernel) rfl rfl .nil) (fun e_ => .inl ⟨rfl, V1.t (V1.indexAddrS ty_27 sz_29 rfl rfl (by decide) (by decide)) ⟨rfl, rfl⟩⟩) ?_
      refine Det.cons 10 (ins := [(51, _)]) (.new 9 0 (by decide +kernel) rfl rfl .nil) (fun e_ => .inl ⟨rfl, V1.t (V1.loadN (vs := cz) one_29 sz_29 rfl (hrdz _ rfl rfl _ z_E) hz.len) ⟨rfl, rfl⟩⟩) ?_
      refine Det.nil 11 (l := [(2, _), (3, _), (45, _), (52, _)]) (.old z_D (by decide +kernel) (.old z_D (by decide +kernel) (.new 3 7 (by decide +kernel) rfl rfl (.new 10 0 (by decide +kernel) rfl rfl .nil)))) (fun e_ => ?_)
      refine (show TU _ _ _ 3 _ _ _ from ?_)
      refine TU.one 11 (by decide +kernel) rfl rfl (T1.buildTwo (cs := c0) (ds := cz) ty_27 sz_29 zr_29 (by decide) rfl rfl hc0.len hz.len (fun b53 => ?_))
      refine TU.one 12 (by decide +kernel) rfl rfl (V1.t (V1.fieldAddr fl_29_2 rfl) ?_)
      refine TU.one 13 (by decide +kernel) rfl rfl (T1.store1 rfl rfl sz_27 rfl z_G (Nat.zero_le _) z_H ?_)
      refine TU.done (by decide +kernel) ?_
      refine T.seq ?_
      refine T.seq ?_
      refine T.drawDet' mixed (by decide +kernel) ?_
      refine Det.cons 0 (ins := [(3, _)]) (.old z_D (by decide +kernel) .nil) (fun e_ => .inl ⟨rfl, V1.t (V1.fieldAddr fl_29_0 rfl) ⟨rfl, rfl⟩⟩) ?_
      refine Det.cons 1 (ins := [(55, _)]) (.new 0 0 (by decide +kernel) rfl rfl .nil) (fun e_ => .inl ⟨rfl, V1.t (V1.load1 one_3 rfl (.own z_C (by rfl))) ⟨rfl, rfl⟩⟩) ?_
      refine Det.cons 2 (ins := [(56, _)]) (.new 1 0 (by decide +kernel) rfl rfl .nil) (fun e_ => .inl ⟨rfl, V1.t (V1.eqI (r := true) rfl rfl (by first | decide | simp_all)) ⟨rfl, rfl⟩⟩) ?_
      refine Det.cons 3 (ins := [(57, _)]) (.new 2 0 (by decide +kernel) rfl rfl .nil) (fun e_ => .inl ⟨rfl, V1.t (V1.move' z_D) ⟨rfl, rfl⟩⟩) ?_
      refine Det.cons 4 (ins := [(3, _), (58, _)]) (.old z_D (by decide +kernel) (.new 3 0 (by decide +kernel) rfl rfl .nil)) (fun e_ => .inl ⟨rfl, V1.t (V1.fieldAddr fl_29_2 rfl) ⟨rfl, rfl⟩⟩) ?_
      refine Det.cons 5 (ins := [(58, _), (59, _)]) (.new 3 1 (by decide +kernel) rfl rfl (.new 4 0 (by decide +kernel) rfl rfl .nil)) (fun e_ => .inl ⟨rfl, V1.t (V1.load1 one_27 rfl (.own z_C (by rfl))) ⟨rfl, rfl⟩⟩) ?_
      refine Det.cons 6 (ins := [(58, _), (60, _)]) (.new 3 2 (by decide +kernel) rfl rfl (.new 5 0 (by decide +kernel) rfl rfl .nil)) (fun e_ => .inl ⟨rfl, V1.t (V1.indexAddrS ty_27 sz_29 rfl rfl (by decide) (by decide)) ⟨rfl, rfl⟩⟩) ?_
      refine Det.cons 7 (ins := [(58, _), (61, _)]) (.new 3 3 (by decide +kernel) rfl rfl (.new 6 0 (by decide +kernel) rfl rfl .nil)) (fun e_ => .inl ⟨rfl, V1.t (V1.loadN (vs := cz) one_29 sz_29 rfl (RdN.mid3 (pre := c0) (cs := cz) z_C (by rw [hc0.len]; rfl)) hz.len) ⟨rfl, rfl⟩⟩) ?_
      refine Det.cons 8 (ins := [(3, _), (58, _)]) (.old z_D (by decide +kernel) (.new 3 4 (by decide +kernel) rfl rfl .nil)) (fun e_ => .inl ⟨rfl, V1.t (V1.fieldAddr fl_29_2 rfl) ⟨rfl, rfl⟩⟩) ?_
      refine Det.cons 9 (ins := [(58, _), (63, _)]) (.new 3 5 (by decide +kernel) rfl rfl (.new 8 0 (by decide +kernel) rfl rfl .nil)) (fun e_ => .inl ⟨rfl, V1.t (V1.load1 one_27 rfl (.own z_C (by rfl))) ⟨rfl, rfl⟩⟩) ?_
      refine Det.cons 10 (ins := [(58, _), (64, _)]) (.new 3 6 (by decide +kernel) rfl rfl (.new 9 0 (by decide +kernel) rfl rfl .nil)) (fun e_ => .inl ⟨rfl, V1.t (V1.indexAddrS ty_27 sz_29 rfl rfl (by decide) (by decide)) ⟨rfl, rfl⟩⟩) ?_
      refine Det.cons 11 (ins := [(58, _), (65, _)]) (.new 3 7 (by decide +kernel) rfl rfl (.new 10 0 (by decide +kernel) rfl rfl .nil)) (fun e_ => .inl ⟨rfl, V1.t (V1.loadN (vs := c0) one_29 sz_29 rfl (RdN.mid2 (pre := []) (cs := c0) (post := cz) z_C rfl) hc0.len) ⟨rfl, rfl⟩⟩) ?_
      refine Det.cons 12 (ins := [(58, _), (62, _), (66, _)]) (v := .int .i64 (cmpT z (nrm p))) (.new 3 8 (by decide +kernel) rfl rfl (.new 7 4 (by decide +kernel) rfl rfl (.new 11 0 (by decide +kernel) rfl rfl .nil))) (fun e_ => .inl ⟨rfl, ?_⟩) ?_
      · refine T1.callV has_16 rfl rfl (RCompare_any w0 z (nrm p) (Y ++ Ps) _ _ hz hc0) z_E (fun v_ hv => ?_)
        obtain rfl := hv
        exact ⟨rfl, rfl⟩
      refine Det.cons 13 (ins := [(58, _), (67, _)]) (.new 3 9 (by decide +kernel) rfl rfl (.new 12 0 (by decide +kernel) rfl rfl .nil)) (fun e_ => .inl ⟨rfl, V1.t (V1.ltI (r := false) rfl rfl (decide_eq_false hlt)) ⟨rfl, rfl⟩⟩) ?_
      refine Det.cons 14 (ins := [(58, _), (68, _)]) (.new 3 10 (by decide +kernel) rfl rfl (.new 13 0 (by decide +kernel) rfl rfl .nil)) (fun e_ => .inl ⟨rfl, V1.t (V1.pick rfl z_D) ⟨rfl, rfl⟩⟩) ?_
      refine Det.nil 15 (l := [(2, _), (3, _), (69, _)]) (.old z_D (by decide +kernel) (.old z_D (by decide +kernel) (.new 14 0 (by decide +kernel) rfl rfl .nil))) (fun e_ => ?_)
      refine T.cond_f rfl ?_
      refine T.skip ?_
      refine T.seq ?_
      refine T.region ?_
      refine TL.cons rfl (V1.t (V1.loadN one_29 sz_29 rfl (RdN.whole z_C) (by rfl)) ?_)
      refine TL.cons rfl (T1.storeN rfl rfl sz_29 (ones rfl) z_G (by rfl) (by rfl) ?_)
      refine TL.nil ?_
      refine T.ret ?_
      rw [hnr, two_ge hlt]
      exact ⟨_, ⟨⟨b53, some 29⟩, 0, c0 ++ cz, 2 * 3⟩ :: (Y ++ G), _, .cons (.cellN z_D one_29 sz_29 (RdN.whole z_C) (by rfl)) .nil, z_A, ⟨⟨b53, some 29⟩, 0, c0 ++ cz, 2 * 3⟩ :: Y, rfl, _, rfl, TmR.mkN (n := 2) (vs := c0 ++ cz) rfl (RowR.own (List.mem_cons_self ..) (by simp [hc0.len, hz.len])) (by decide) (TmsR.more (Inc.skip1 Inc.refl) (TmsR.cons hc0 (TmsR.one hz)))⟩
    ·
      obtain ⟨bs, off, cap, size, rfl, hcap, hsize, rfl⟩ := hsl.blk (n := 2) hxs.len (by decide)
      obtain ⟨c0, c1, rfl, hc0, hc1⟩ := TmsR.two_inv (x := nrm p) (y := nrm q) hxs
      rw [hq] at hc1
      obtain ⟨aa, cq, vq, rfl, hrq, hlq, htq⟩ := hc1.inv
      refine TL.cons rfl (V1.t (V1.eqI (r := true) rfl rfl (by first | decide | simp_all)) ?_)
      refine TL.cons rfl (V1.t (V1.move' z_D) ?_)
      refine TL.cons rfl (V1.t (V1.fieldAddr fl_29_2 rfl) ?_)
      refine TL.cons rfl (V1.t (V1.load1 one_27 rfl (.own z_C (by rfl))) ?_)
      refine TL.cons rfl (V1.t (V1.indexAddrS ty_27 sz_29 rfl rfl (by decide) (by decide)) ?_)
      refine TL.cons rfl (V1.t (V1.fieldAddr fl_29_0 rfl) ?_)
      refine TL.cons rfl (V1.t (V1.load1 (v := Value.int .i64 kq) one_3 rfl (Rd.mid2 (pre := c0) (cs := [Value.int .i64 kq, Value.string (bstr nq), Value.slice aa aq.length cq]) (post := []) (i := 0) z_C rfl (by rw [hc0.len]; rfl))) ?_)
      refine TL.cons rfl (V1.t (V1.eqI (r := false) rfl rfl (by first | decide | simp_all)) ?_)
      refine TL.cons rfl (V1.t (V1.pick rfl z_D) ?_)
      refine TL.nil ?_
      refine T.cond_f rfl ?_
      refine T.skip ?_
      refine T.seq ?_
      refine T.seq ?_
      refine T.live (l := [(2, _), (3, _)]) (.cons z_D (.cons z_D .nil)) (fun e_ => ?_)
      refine T.drawDet' mixed (by decide +kernel) ?_
      refine Det.cons 0 (ins := [(3, _)]) (.old z_D (by decide +kernel) .nil) (fun e_ => .inl ⟨rfl, V1.t (V1.fieldAddr fl_29_0 rfl) ⟨rfl, rfl⟩⟩) ?_
      refine Det.cons 1 (ins := [(55, _)]) (.new 0 0 (by decide +kernel) rfl rfl .nil) (fun e_ => .inl ⟨rfl, V1.t (V1.load1 one_3 rfl (.own z_C (by rfl))) ⟨rfl, rfl⟩⟩) ?_
      refine Det.cons 2 (ins := [(56, _)]) (.new 1 0 (by decide +kernel) rfl rfl .nil) (fun e_ => .inl ⟨rfl, V1.t (V1.eqI (r := false) rfl rfl (by first | decide | simp_all)) ⟨rfl, rfl⟩⟩) ?_
      refine Det.cons 3 (ins := [(57, _)]) (.new 2 0 (by decide +kernel) rfl rfl .nil) (fun e_ => .inl ⟨rfl, V1.t (V1.move' z_D) ⟨rfl, rfl⟩⟩) ?_
      refine Det.cons 4 (ins := [(58, _)]) (.new 3 0 (by decide +kernel) rfl rfl .nil) (fun e_ => .inr ⟨rfl, rfl⟩) ?_
      refine Det.cons 5 (ins := [(58, _)]) (.new 3 1 (by decide +kernel) rfl rfl .nil) (fun e_ => .inr ⟨rfl, rfl⟩) ?_
      refine Det.cons 6 (ins := [(58, _)]) (.new 3 2 (by decide +kernel) rfl rfl .nil) (fun e_ => .inr ⟨rfl, rfl⟩) ?_
      refine Det.cons 7 (ins := [(58, _)]) (.new 3 3 (by decide +kernel) rfl rfl .nil) (fun e_ => .inr ⟨rfl, rfl⟩) ?_
      refine Det.cons 8 (ins := [(58, _)]) (.new 3 4 (by decide +kernel) rfl rfl .nil) (fun e_ => .inr ⟨rfl, rfl⟩) ?_
      refine Det.cons 9 (ins := [(58, _)]) (.new 3 5 (by decide +kernel) rfl rfl .nil) (fun e_ => .inr ⟨rfl, rfl⟩) ?_
      refine Det.cons 10 (ins := [(58, _)]) (.new 3 6 (by decide +kernel) rfl rfl .nil) (fun e_ => .inr ⟨rfl, rfl⟩) ?_
      refine Det.cons 11 (ins := [(58, _)]) (.new 3 7 (by decide +kernel) rfl rfl .nil) (fun e_ => .inr ⟨rfl, rfl⟩) ?_
      refine Det.cons 12 (ins := [(58, _)]) (.new 3 8 (by decide +kernel) rfl rfl .nil) (fun e_ => .inr ⟨rfl, rfl⟩) ?_
      refine Det.cons 13 (ins := [(58, _)]) (.new 3 9 (by decide +kernel) rfl rfl .nil) (fun e_ => .inr ⟨rfl, rfl⟩) ?_
      refine Det.cons 14 (ins := [(58, _), (68, _)]) (.new 3 10 (by decide +kernel) rfl rfl (.new 13 0 (by decide +kernel) rfl rfl .nil)) (fun e_ => .inl ⟨rfl, V1.t (V1.pick rfl z_D) ⟨rfl, rfl⟩⟩) ?_
      refine Det.nil 15 (l := [(2, _), (3, _), (69, _)]) (.old z_D (by decide +kernel) (.old z_D (by decide +kernel) (.new 14 0 (by decide +kernel) rfl rfl .nil))) (fun e_ => ?_)
      refine T.cond_f rfl ?_
      refine T.skip ?_
      refine T.seq ?_
      refine T.region ?_
      refine TL.cons rfl (V1.t (V1.loadN one_29 sz_29 rfl (RdN.whole z_C) (by rfl)) ?_)
      refine TL.cons rfl (T1.storeN rfl rfl sz_29 (ones rfl) z_G (by rfl) (by rfl) ?_)
      refine TL.nil ?_
      refine T.ret ?_
      rw [hnr]
      exact ⟨_, ⟨⟨bs, some 29⟩, off, c0 ++ ([Value.int .i64 kq, Value.string (bstr nq), Value.slice aa aq.length cq] ++ []), size⟩ :: (Y ++ G), _, .cons (.cellN z_D one_29 sz_29 (RdN.whole z_C) (by rfl)) .nil, z_A, ⟨⟨bs, some 29⟩, off, c0 ++ ([Value.int .i64 kq, Value.string (bstr nq), Value.slice aa aq.length cq] ++ []), size⟩ :: Y, rfl, _, rfl, TmR.mkN (n := 2) (vs := c0 ++ ([Value.int .i64 kq, Value.string (bstr nq), Value.slice aa aq.length cq] ++ [])) rfl (RowR.own (List.mem_cons_self ..) (by simp [hc0.len])) (by decide) (TmsR.more (Inc.skip1 Inc.refl) hxs)⟩
    ·
      obtain ⟨sa, sc, rfl, hrow⟩ := hsl.tm hxs
      refine TL.cons rfl (V1.t (V1.eqI (r := false) rfl rfl (by first | decide | simp_all)) ?_)
      refine TL.cons rfl (V1.t (V1.move' z_D) ?_)
      refine TL.no rfl ?_
      refine TL.no rfl ?_
      refine TL.no rfl ?_
      refine TL.no rfl ?_
      refine TL.no rfl ?_
      refine TL.no rfl ?_
      refine TL.cons rfl (V1.t (V1.pick rfl z_D) ?_)
      refine TL.nil ?_
      refine T.cond_f rfl ?_
      refine T.skip ?_
      refine T.seq ?_
      refine T.seq ?_
      refine T.live (l := [(2, _), (3, _)]) (.cons z_D (.cons z_D .nil)) (fun e_ => ?_)
      refine T.drawDet' mixed (by decide +kernel) ?_
      refine Det.cons 0 (ins := [(3, _)]) (.old z_D (by decide +kernel) .nil) (fun e_ => .inl ⟨rfl, V1.t (V1.fieldAddr fl_29_0 rfl) ⟨rfl, rfl⟩⟩) ?_
      refine Det.cons 1 (ins := [(55, _)]) (.new 0 0 (by decide +kernel) rfl rfl .nil) (fun e_ => .inl ⟨rfl, V1.t (V1.load1 one_3 rfl (.own z_C (by rfl))) ⟨rfl, rfl⟩⟩) ?_
      refine Det.cons 2 (ins := [(56, _)]) (.new 1 0 (by decide +kernel) rfl rfl .nil) (fun e_ => .inl ⟨rfl, V1.t (V1.eqI (r := false) rfl rfl (by first | decide | simp_all)) ⟨rfl, rfl⟩⟩) ?_
      refine Det.cons 3 (ins := [(57, _)]) (.new 2 0 (by decide +kernel) rfl rfl .nil) (fun e_ => .inl ⟨rfl, V1.t (V1.move' z_D) ⟨rfl, rfl⟩⟩) ?_
      refine Det.cons 4 (ins := [(58, _)]) (.new 3 0 (by decide +kernel) rfl rfl .nil) (fun e_ => .inr ⟨rfl, rfl⟩) ?_
      refine Det.cons 5 (ins := [(58, _)]) (.new 3 1 (by decide +kernel) rfl rfl .nil) (fun e_ => .inr ⟨rfl, rfl⟩) ?_
      refine Det.cons 6 (ins := [(58, _)]) (.new 3 2 (by decide +kernel) rfl rfl .nil) (fun e_ => .inr ⟨rfl, rfl⟩) ?_
      refine Det.cons 7 (ins := [(58, _)]) (.new 3 3 (by decide +kernel) rfl rfl .nil) (fun e_ => .inr ⟨rfl, rfl⟩) ?_
      refine Det.cons 8 (ins := [(58, _)]) (.new 3 4 (by decide +kernel) rfl rfl .nil) (fun e_ => .inr ⟨rfl, rfl⟩) ?_
      refine Det.cons 9 (ins := [(58, _)]) (.new 3 5 (by decide +kernel) rfl rfl .nil) (fun e_ => .inr ⟨rfl, rfl⟩) ?_
      refine Det.cons 10 (ins := [(58, _)]) (.new 3 6 (by decide +kernel) rfl rfl .nil) (fun e_ => .inr ⟨rfl, rfl⟩) ?_
      refine Det.cons 11 (ins := [(58, _)]) (.new 3 7 (by decide +kernel) rfl rfl .nil) (fun e_ => .inr ⟨rfl, rfl⟩) ?_
      refine Det.cons 12 (ins := [(58, _)]) (.new 3 8 (by decide +kernel) rfl rfl .nil) (fun e_ => .inr ⟨rfl, rfl⟩) ?_
      refine Det.cons 13 (ins := [(58, _)]) (.new 3 9 (by decide +kernel) rfl rfl .nil) (fun e_ => .inr ⟨rfl, rfl⟩) ?_
      refine Det.cons 14 (ins := [(58, _), (68, _)]) (.new 3 10 (by decide +kernel) rfl rfl (.new 13 0 (by decide +kernel) rfl rfl .nil)) (fun e_ => .inl ⟨rfl, V1.t (V1.pick rfl z_D) ⟨rfl, rfl⟩⟩) ?_
      refine Det.nil 15 (l := [(2, _), (3, _), (69, _)]) (.old z_D (by decide +kernel) (.old z_D (by decide +kernel) (.new 14 0 (by decide +kernel) rfl rfl .nil))) (fun e_ => ?_)
      refine T.cond_f rfl ?_
      refine T.skip ?_
      refine T.seq ?_
      refine T.region ?_
      refine TL.cons rfl (V1.t (V1.loadN one_29 sz_29 rfl (RdN.whole z_C) (by rfl)) ?_)
      refine TL.cons rfl (T1.storeN rfl rfl sz_29 (ones rfl) z_G (by rfl) (by rfl) ?_)
      refine TL.nil ?_
      refine T.ret ?_
      rw [hnr]
      exact ⟨_, Ls ++ (Y ++ G), _, .cons (.cellN z_D one_29 sz_29 (RdN.whole z_C) (by rfl)) .nil, z_A, Ls ++ Y, by rw [List.append_assoc], _, rfl, TmR.mk (hrow.more (by intro B_ hB_; simp only [List.mem_append, List.mem_cons, List.not_mem_nil, or_false] at hB_ ⊢; grind)) (by unfold maxN; rw [nrmL_len]; omega) (hxs.more (by intro B_ hB_; simp only [List.mem_append, List.mem_cons, List.not_mem_nil, or_false] at hB_ ⊢; grind))⟩

theorem RNormal_any (w0 : World) (x : Tm) : RNormAt w0 x := by
  induction x using Tm.ind with
  | h k n xs ih => exact fun Ps cx hx hs => RNormal_step w0 Ps ih cx hx hs
end Go.Proofs.YtlpkcbkflfbclaaGreatDoor.S
