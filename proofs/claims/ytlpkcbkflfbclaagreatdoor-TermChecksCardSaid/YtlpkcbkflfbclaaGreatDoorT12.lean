/- Somebody's knowledge, made and asked. -/
import Derived.Test.YtlpkcbkflfbclaaGreatDoorT11
namespace Go.Proofs.YtlpkcbkflfbclaaGreatDoor.S
open Go.RowKit

/-- Terms one behind the other. -/
def pairs : List Tm → Tm
  | [] => .mk 1 [110, 111, 116, 104, 105, 110, 103] []
  | [a] => a
  | a :: b :: l => .mk 2 [] [a, pairs (b :: l)]
theorem pairs_drop {ts : List Tm} {i : Nat} {x : Tm} (hx : ts[i]? = some x) (hi : i + 1 < ts.length) : pairs (ts.drop i) = .mk 2 [] [x, pairs (ts.drop (i + 1))] := by
  have h1 := List.drop_eq_getElem_cons (show i < ts.length by omega)
  have h2 := List.drop_eq_getElem_cons hi
  rw [List.getElem?_eq_getElem (by omega)] at hx
  rw [h1, h2, pairs, ← h2, Option.some.inj hx]
theorem pairs_last {ts : List Tm} {i : Nat} {x : Tm} (hx : ts[i]? = some x) (hi : i + 1 = ts.length) : pairs (ts.drop i) = x := by
  have h1 := List.drop_eq_getElem_cons (show i < ts.length by omega)
  rw [List.getElem?_eq_getElem (by omega)] at hx
  rw [h1, List.drop_of_length_le (by omega), pairs, Option.some.inj hx]

set_option maxRecDepth 100000 in
theorem Pairs_any (w0 : World) (Ps : List Blk) {ts : List Tm} {a : Option Addr} {c : Nat} {vs : List Value} (hr : RowR w0 Ps 3 (.slice a ts.length c) ts.length vs) (ht : TmsR w0 Ps ts vs) (hl : ts.length ≤ maxN) : FnG P 31 [.slice a ts.length c] w0 Ps [] (fun v Y => ∃ cy, v = .agg cy.toArray ∧ TmR w0 (Y ++ Ps) (pairs ts) cy) := by
  unfold maxN at hl
  refine FnG.of 30 [.cell 2 24] Go.Proofs.Tryz.func31 rfl rfl rfl rfl (fun G hG => ?_)
  refine T.seq ?_
  refine T.region ?_
  refine TL.cons rfl (T1.allocN 3 zr_24 rfl (fun b2 => ?_))
  refine TL.nil ?_
  refine T.seq ?_
  refine T.seq ?_
  refine T.region ?_
  refine TL.cons rfl (V1.t (V1.move' z_D) ?_)
  refine TL.cons rfl (V1.t (V1.lenSl ty_22 rfl) ?_)
  refine TL.cons rfl (T1.eqI_split rfl rfl (fun h1 => ?_) (fun h1 => ?_))
  ·
    obtain rfl : ts = [] := List.length_eq_zero_iff.1 (by omega)
    refine TL.nil ?_
    refine T.cond_t rfl ?_
    refine T.seq ?_
    refine T.region ?_
    refine TL.cons rfl (T1.callV has_32 rfl rfl (Of_any w0 Ps [110, 111, 116, 104, 105, 110, 103]) z_E (fun v_ hv => ?_))
    obtain rfl := hv
    refine TL.cons rfl (T1.storeN rfl rfl sz_24 (ones rfl) z_G (by rfl) (by rfl) ?_)
    refine TL.nil ?_
    refine T.ret ?_
    exact ⟨_, G, _, .cons (.cellN z_D one_24 sz_24 (RdN.whole z_C) (by rfl)) .nil, z_A, [], rfl, _, rfl, TmR.atom⟩
  ·
    obtain ⟨x, hx0⟩ : ∃ x, ts[ts.length - 1]? = some x := ⟨_, List.getElem?_eq_getElem (by omega)⟩
    obtain ⟨bx, ox, cs_, rfl, hx, hrdx⟩ := hr.term ht hx0 P
    obtain ⟨kx, nx, asx⟩ := x
    obtain ⟨ax, cx, vsx, rfl, hrx, hlx, htx⟩ := hx.inv
    try simp only at *
    have hps := pairs_last hx0 (by omega)
    refine TL.nil ?_
    refine T.cond_f rfl ?_
    refine T.skip ?_
    refine T.seq ?_
    refine T.region ?_
    refine TL.cons rfl (V1.t (V1.move' z_D) ?_)
    refine TL.cons rfl (V1.t (V1.move' z_D) ?_)
    refine TL.cons rfl (V1.t (V1.lenSl ty_22 rfl) ?_)
    refine TL.cons rfl (V1.t (V1.sub (c := ((ts.length - 1 : Nat) : Int)) rfl rfl (by rw [wrap_i64 _ (by omega) (by omega)]; omega)) ?_)
    refine TL.cons rfl (V1.t (V1.indexAddrS ty_22 sz_24 rfl rfl (by omega) (by omega)) ?_)
    refine TL.cons rfl (V1.t (V1.loadN (vs := [.int .i64 kx, .string (bstr nx), .slice ax asx.length cx]) one_24 sz_24 rfl (hrdx _ rfl rfl _ z_E) rfl) ?_)
    refine TL.cons rfl (T1.allocN 3 zr_24 rfl (fun b3 => ?_))
    refine TL.cons rfl (T1.storeN rfl rfl sz_24 (ones rfl) z_G (by rfl) (by rfl) ?_)
    refine TL.nil ?_
    refine T.seq ?_
    refine T.seq ?_
    refine T.region ?_
    refine TL.cons rfl (V1.t (V1.move' z_D) ?_)
    refine TL.cons rfl (V1.t (V1.lenSl ty_22 rfl) ?_)
    refine TL.cons rfl (V1.t (V1.sub (c := ((ts.length : Nat) : Int) - 2) rfl rfl (by rw [wrap_i64 _ (by omega) (by omega)])) ?_)
    refine TL.cons rfl (V1.t (V1.assign' z_D) ?_)
    refine TL.nil ?_
    refine T.block ?_
    refine T.loopL (σ := Nat) (l0 := [(0, _), (2, _), (3, _)]) (fun x => [(4, .int .i64 ((x : Nat) - 1 : Int))]) (fun i L => ∃ co_ Y, L = ⟨b2, 0, [.int .i64 0, .string ⟨#[]⟩, .slice none 0 0], 3⟩ :: ⟨b3, 0, co_, 3⟩ :: (Y ++ G) ∧ i + 1 ≤ ts.length ∧ TmR w0 (Y ++ Ps) (pairs (ts.drop i)) co_) (fun i => i) (ts.length - 1) (.cons (by show Value.int .i64 _ = Value.int .i64 _; congr 1; omega) .nil) (.cons z_D (.cons z_D (.cons z_D .nil))) z_A (⟨_, [], rfl, by omega, by rw [hps]; exact hx⟩) ?_
    rintro i e_ L ⟨co_, Y, rfl, hi, hco⟩
    generalize hpo : pairs (ts.drop i) = po at hco
    obtain ⟨ko, no, tso⟩ := po
    obtain ⟨ao, co, vso, rfl, hro, hlo, hto⟩ := hco.inv
    refine T.seq ?_
    refine T.seq ?_
    refine T.region ?_
    refine TL.cons rfl (V1.t (V1.move' z_D) ?_)
    refine TL.cons rfl (T1.geI_split rfl rfl (fun h5 => ?_) (fun h5 => ?_))
    ·
      obtain ⟨x, hx0⟩ : ∃ x, ts[i - 1]? = some x := ⟨_, List.getElem?_eq_getElem (by omega)⟩
      obtain ⟨b2_, o2_, cs_, he_, hx, hrdx⟩ := hr.term ht hx0 P
      cases he_
      obtain ⟨kx, nx, asx⟩ := x
      obtain ⟨ax, cx, vsx, rfl, hrx, hlx, htx⟩ := hx.inv
      try simp only at *
      refine TL.nil ?_
      refine T.cond_t rfl ?_
      refine T.skip ?_
      refine T.seq ?_
      refine T.block ?_
      refine T.drawTail 5 mixed (by decide +kernel) (by rfl) (by decide +kernel) rfl ?_
      refine Det.cons 0 (ins := [(0, _)]) (.old z_D (by decide +kernel) .nil) (fun e_ => .inl ⟨rfl, V1.t (V1.move' z_D) ⟨rfl, rfl⟩⟩) ?_
      refine Det.cons 1 (ins := [(4, _)]) (.old z_D (by decide +kernel) .nil) (fun e_ => .inl ⟨rfl, V1.t (V1.move' z_D) ⟨rfl, rfl⟩⟩) ?_
      refine Det.cons 2 (ins := [(22, _), (23, _)]) (.new 0 1 (by decide +kernel) rfl rfl (.new 1 0 (by decide +kernel) rfl rfl .nil)) (fun e_ => .inl ⟨rfl, V1.t (V1.indexAddrS (i := ((i - 1 : Nat) : Int)) ty_22 sz_24 rfl (by show Value.int .i64 _ = Value.int .i64 _; congr 1; omega) (by omega) (by omega)) ⟨rfl, rfl⟩⟩) ?_
      refine Det.cons 3 (ins := [(24, _)]) (.new 2 0 (by decide +kernel) rfl rfl .nil) (fun e_ => .inl ⟨rfl, V1.t (V1.loadN (vs := [.int .i64 kx, .string (bstr nx), .slice ax asx.length cx]) one_24 sz_24 rfl (hrdx _ rfl rfl _ z_E) rfl) ⟨rfl, rfl⟩⟩) ?_
      refine Det.cons 4 (ins := [(3, _)]) (.old z_D (by decide +kernel) .nil) (fun e_ => .inl ⟨rfl, V1.t (V1.loadN one_24 sz_24 rfl (RdN.whole z_C) (by rfl)) ⟨rfl, rfl⟩⟩) ?_
      refine Det.nil 5 (l := [(0, _), (2, _), (3, _), (4, _), (25, _), (26, _)]) (.old z_D (by decide +kernel) (.old z_D (by decide +kernel) (.old z_D (by decide +kernel) (.old z_D (by decide +kernel) (.new 3 1 (by decide +kernel) rfl rfl (.new 4 0 (by decide +kernel) rfl rfl .nil)))))) (fun e_ => ?_)
      refine (show TU _ _ _ 3 _ _ _ from ?_)
      refine TU.one 5 (by decide +kernel) rfl rfl (T1.buildTwo ty_22 sz_24 zr_24 (by decide) z_D z_D (by rfl) (by rfl) (fun b27 => ?_))
      refine TU.one 6 (by decide +kernel) rfl rfl (V1.t (V1.buildF pl_24 zr_24 (.one rfl z_D rfl (.one rfl z_D rfl .nil)) (by repeat (first | exact FillL.nil | exact SetN.done | apply SetN.here | apply SetN.there | apply FillL.cons))) ?_)
      refine TU.one 7 (by decide +kernel) rfl rfl (T1.storeN rfl rfl sz_24 (ones rfl) z_G (by rfl) (by rfl) ?_)
      refine TU.done (by decide +kernel) ?_
      refine T.region ?_
      refine TL.cons rfl (V1.t (V1.move' z_D) ?_)
      refine TL.cons rfl (V1.t (V1.sub (c := ((i - 1 : Nat) : Int) - 1) rfl rfl (by rw [wrap_i64 _ (by omega) (by omega)]; omega)) ?_)
      refine TL.cons rfl (V1.t (V1.assign' z_D) ?_)
      refine TL.nil ?_
      exact ⟨(i - 1), ⟨b2, 0, [.int .i64 0, .string ⟨#[]⟩, .slice none 0 0], 3⟩ :: ⟨b3, 0, _, 3⟩ :: (⟨⟨b27, some 24⟩, 0, [.int .i64 kx, .string (bstr nx), .slice ax asx.length cx] ++ [.int .i64 ko, .string (bstr no), .slice ao tso.length co], 2 * 3⟩ :: (Y ++ G)), _, (by simp only; omega), (.cons rfl .nil), (.cons rfl (.cons rfl (.cons rfl .nil))), z_A, ⟨_, ⟨⟨b27, some 24⟩, 0, [.int .i64 kx, .string (bstr nx), .slice ax asx.length cx] ++ [.int .i64 ko, .string (bstr no), .slice ao tso.length co], 2 * 3⟩ :: Y, rfl, by omega, by rw [pairs_drop hx0 (by omega), show i - 1 + 1 = i by omega, hpo]; exact TmR.mkN (n := 2) rfl (RowR.own (List.mem_cons_self ..) rfl) (by decide) (TmsR.cons (hx.more (Inc.skip1 (Inc.skip Inc.refl))) (TmsR.one (hco.more (Inc.skip1 Inc.refl))))⟩⟩
    ·
      obtain rfl : i = 0 := by omega
      rw [List.drop_zero] at hpo
      refine TL.nil ?_
      refine T.cond_f rfl ?_
      refine T.exit ?_
      refine T.seq ?_
      refine T.region ?_
      refine TL.cons rfl (V1.t (V1.loadN one_24 sz_24 rfl (RdN.whole z_C) (by rfl)) ?_)
      refine TL.cons rfl (T1.storeN rfl rfl sz_24 (ones rfl) z_G (by rfl) (by rfl) ?_)
      refine TL.nil ?_
      refine T.ret ?_
      rw [hpo]
      exact ⟨_, Y ++ G, _, .cons (.cellN z_D one_24 sz_24 (RdN.whole z_C) (by rfl)) .nil, z_A, Y, rfl, _, rfl, hco⟩

end Go.Proofs.YtlpkcbkflfbclaaGreatDoor.S
