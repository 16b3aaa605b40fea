/- What events tell, and who may have it, is the document's answer. -/
import Derived.Test.YtlpkcbkflfbclaaGreatDoorG17
import Derived.Test.YtlpkcbkflfbclaaGreatDoorG11
import Derived.Test.YtlpkcbkflfbclaaGreatDoorGE
namespace Go.Proofs.YtlpkcbkflfbclaaGreatDoor.S
open Go.RowKit

set_option maxRecDepth 100000 in
theorem open_evsX {H : Type} {enc : TypeId × Value → H} {W : World} {v : Value} {d : DataW H} {p : List MemPlace} {b0 : Nat} {r : Reach} (hv : Value.okWide P W r b0 42 v) (h : DataW.Trod enc P W 0 (fun _ => true) true 42 v d p) (hw : Wt P 42 d) :
    ∃ a c, ∃ es : List (Int × Int), v = .slice a es.length c ∧ RowR W [] 2 (.slice a es.length c) es.length (es.flatMap evC) ∧ es.length ≤ 8796093022208 := by
  have hc := okW_cell (by rw [ty_42]; simp) (by rw [ty_42]; simp) hv
  obtain ⟨fuel, h⟩ := h
  have hcells : v.cells.toList = [v] := by
    unfold Cell.okWide Cell.ok at hc
    simp only [ty_42] at hc
    cases v <;> first | rfl | exact hc.elim
  rw [hcells] at h
  obtain ⟨n, ess, ds, h1, h2, h3, h4, h5⟩ := rd_slR ty_42 ce_62 (by decide) ⟨fuel, p, h⟩
  have hn : n ≤ 8796093022208 := by
    rcases h3 with ⟨_, rfl⟩ | ⟨sp, rfl⟩
    · simp at h2; omega
    · have := hw.len ty_42
      rw [show P.bytesOf 62 = 16 by kernel_rfl] at this
      unfold reachBytes at this
      omega
  obtain ⟨l, hl, hf⟩ := choose_evs (ess := ess) fun es hes => by
    obtain ⟨i, hi, rfl⟩ := List.mem_iff_getElem.1 hes
    exact rd_ev (h5 i _ _ (List.getElem?_eq_getElem hi) (List.getElem?_eq_getElem (l := ds) (i := i) (by omega)))
  obtain ⟨a, c, rfl⟩ := h4.form
  exact ⟨a, c, l, by rw [hl, h1], by rw [hl, h1, hf]; exact h4, by rw [hl, h1]; exact hn⟩
def fK (e : Int × Int) : Value := .int .i64 e.1
def fW (e : Int × Int) : Value := .int .i64 e.2
theorem take_ev {es : List (Int × Int)} {i : Nat} {e : Int × Int} (h : es[i]? = some e) : es.take (i + 1) = es.take i ++ [e] := by rw [List.take_add_one, h]; rfl
theorem out_told {es : List (Int × Int)} {i : Nat} {t : Td} (h : (sgOut es).told[i]? = some t) : t.num < 26 ∧ t.names.length ≤ 6 := by
  by_cases hc : (sgRun es).1 = 0
  · obtain ⟨h1, _, _, _, _, h6⟩ := tellsR (out_inv hc) h
    have h2 := (List.getElem?_eq_some_iff.1 h).1
    have := (out_inv hc).tl
    exact ⟨by omega, h6⟩
  · rw [sgOut_err hc] at h; simp [sgNil] at h
theorem out_known {es : List (Int × Int)} {x : Tm} (h : x ∈ (sgOut es).known) : chk x = 0 := by
  by_cases hc : (sgRun es).1 = 0
  · exact (out_inv hc).chk (by omega) x h
  · rw [sgOut_err hc] at h; cases h
theorem out_lens (es : List (Int × Int)) : (sgOut es).told.length ≤ 1000 ∧ (sgOut es).known.length ≤ 1000 ∧ (sgOut es).bare.length ≤ 1000 := by
  by_cases hc : (sgRun es).1 = 0
  · have := (out_inv hc).tl
    have := (out_inv hc).kl
    have := bare_len (out_inv hc)
    exact ⟨by omega, by omega, by omega⟩
  · rw [sgOut_err hc]; simp [sgNil]
theorem sec_xs {es : List (Int × Int)} {xs : List TdX} (h : xs.map (fun e => (e.t, e.sec)) = (sgOut es).told.map (fun t => (t, !t.open (sgOut es)))) : (xs.filter (·.sec)).map TdX.t = secL es := by
  unfold secL
  generalize (sgOut es).told = l at h
  generalize sgOut es = s at h
  induction xs generalizing l with
  | nil =>
    cases l with
    | nil => rfl
    | cons a l => simp at h
  | cons x xs ih =>
    cases l with
    | nil => simp at h
    | cons a l =>
      simp only [List.map_cons, List.cons.injEq, Prod.mk.injEq] at h
      obtain ⟨⟨h1, h2⟩, h3⟩ := h
      have := ih l h3
      rw [List.filter_cons, List.filter_cons, h2]
      cases hc : a.open s <;> simp [this, h1]

set_option maxRecDepth 100000 in
set_option maxHeartbeats 8000000 in
theorem numbers_any (w0 : World) (Ps : List Blk) {es : List (Int × Int)} {a : Option Addr} {c : Nat} (hr : RowR w0 Ps 2 (.slice a es.length c) es.length (es.flatMap evC)) (hel : es.length ≤ 8796093022208) : FnG P 23 [.slice a es.length c] w0 Ps [] (fun v Y => ∃ s1 s2 L1 L2, Y = L1 ++ L2 ∧ v = .tuple #[s1, s2] ∧ Sl s1 (es.map fK) 1 L1 ∧ Sl s2 (es.map fW) 1 L2) := by
  refine FnG.of 27 [.tmp 2, .tmp 3] Go.Proofs.Tryz.func23 rfl rfl rfl rfl (fun G hG => ?_)
  refine T.seq ?_
  refine T.region ?_
  refine TL.cons rfl (V1.t (V1.assign' z_C) ?_)
  refine TL.cons rfl (V1.t (V1.assign' z_C) ?_)
  refine TL.nil ?_
  refine T.seq ?_
  refine T.region ?_
  refine TL.cons rfl (V1.t (V1.assign' z_C) ?_)
  refine TL.cons rfl (V1.t (V1.assign' z_C) ?_)
  refine TL.nil ?_
  refine T.seq ?_
  refine T.seq ?_
  refine T.region ?_
  refine TL.cons rfl (V1.t (V1.move' z_C) ?_)
  refine TL.cons rfl (V1.t (V1.lenSl ty_42 rfl) ?_)
  refine TL.cons rfl (V1.t (V1.move' z_C) ?_)
  refine TL.nil ?_
  refine T.block ?_
  refine T.loopL (σ := Nat × Value × List Blk × Value × List Blk) (l0 := [(8, _), (9, _)]) (fun x => [(10, .int .i64 (x.1 : Nat)), (4, x.2.1), (5, x.2.2.2.1)]) (fun x L => L = x.2.2.1 ++ (x.2.2.2.2 ++ G) ∧ x.1 ≤ es.length ∧ Sl x.2.1 ((es.take x.1).map fK) 1 x.2.2.1 ∧ Sl x.2.2.2.1 ((es.take x.1).map fW) 1 x.2.2.2.2) (fun x => es.length - x.1) (0, .slice none 0 0, [], .slice none 0 0, []) (.cons rfl (.cons rfl (.cons rfl .nil))) (.cons z_C (.cons z_C .nil)) z_A (⟨rfl, Nat.zero_le _, Sl.nil, Sl.nil⟩) ?_
  rintro ⟨i, s1, L1, s2, L2⟩ e_ L ⟨rfl, hi, hs1, hs2⟩
  simp only at hi hs1 hs2
  dsimp only
  refine T.seq ?_
  refine T.region ?_
  refine TL.cons rfl (T1.ltI_split rfl rfl (fun h3 => ?_) (fun h3 => ?_))
  ·
    obtain ⟨⟨k, w⟩, hx0⟩ : ∃ e, es[i]? = some e := ⟨_, List.getElem?_eq_getElem (by omega)⟩
    obtain ⟨b_, o_, rfl, hrd⟩ := hr.at (by omega) P
    have hrde : ∀ C : Ctx, C.w0 = w0 → C.M = [] → ∀ L, Inc Ps L → RdN C L ⟨b_, o_ + i * 2, none⟩ [.int .i64 k, .int .i64 w] := fun C h0 hm L hL => by have h_ := ((hrd C h0 hm L hL).elem (k := 2) (n := es.length) (ev_len es) (by omega : i < es.length)).1; rwa [ev_at hx0] at h_
    refine TL.nil ?_
    refine T.seq ?_
    refine T.cond_t rfl ?_
    refine T.skip ?_
    refine T.seq ?_
    refine T.block ?_
    refine T.seq ?_
    refine T.region ?_
    refine TL.cons rfl (V1.t (V1.indexAddrS ty_42 sz_62 rfl rfl (by omega) (by omega)) ?_)
    refine TL.cons rfl (V1.t (V1.loadN (vs := [.int .i64 k, .int .i64 w]) one_62 sz_62 rfl (hrde _ rfl rfl _ z_B) rfl) ?_)
    refine TL.cons rfl (T1.allocN 2 zr_62 rfl (fun b7 => ?_))
    refine TL.cons rfl (T1.storeN rfl rfl sz_62 (ones rfl) z_G (by rfl) (by rfl) ?_)
    refine TL.nil ?_
    refine T.seq ?_
    refine T.region ?_
    refine TL.cons rfl (V1.t (V1.move' z_C) ?_)
    refine TL.cons rfl (V1.t (V1.fieldAddr fl_62_0 rfl) ?_)
    refine TL.cons rfl (V1.t (V1.load1 (v := .int .i64 k) one_3 rfl (.own z_D (by rfl))) ?_)
    refine TL.cons rfl (T1.buildSl1 (os := [.tmp 16]) ty_44 sz_3 zr_3 (by decide) rfl (.cons (v := fK (k, w)) rfl .nil) rfl (ones rfl) (fun b17 => ?_))
    refine TL.cons rfl (T1.append ty_44 kd_44 sz_3 by_3 zr_3 rfl (by decide) (by decide) rfl rfl hs1 (.sl (vs := [fK (k, w)]) (RdN.at0 z_D) (by rfl)) (ones rfl) 8796093022208 (by rw [List.length_map, List.length_take]; show _ + 1 ≤ _; omega) (by decide) z_E (fun s3 L3 hs3 => ?_))
    refine TL.cons rfl (V1.t (V1.assign' z_C) ?_)
    refine TL.nil ?_
    refine T.region ?_
    refine TL.cons rfl (V1.t (V1.move' z_C) ?_)
    refine TL.cons rfl (V1.t (V1.fieldAddr fl_62_1 rfl) ?_)
    refine TL.cons rfl (V1.t (V1.load1 (v := .int .i64 w) one_3 rfl (.own z_D (by rfl))) ?_)
    refine TL.cons rfl (T1.buildSl1 (os := [.tmp 21]) ty_44 sz_3 zr_3 (by decide) rfl (.cons (v := fW (k, w)) rfl .nil) rfl (ones rfl) (fun b22 => ?_))
    refine TL.cons rfl (T1.append ty_44 kd_44 sz_3 by_3 zr_3 rfl (by decide) (by decide) rfl rfl hs2 (.sl (vs := [fW (k, w)]) (RdN.at0 z_D) (by rfl)) (ones rfl) 8796093022208 (by rw [List.length_map, List.length_take]; show _ + 1 ≤ _; omega) (by decide) z_E (fun s4 L4 hs4 => ?_))
    refine TL.cons rfl (V1.t (V1.assign' z_C) ?_)
    refine TL.nil ?_
    refine T.live (l := [(4, _), (5, _), (8, _), (9, _), (10, _)]) (.cons z_C (.cons z_C (.cons z_C (.cons z_C (.cons z_C .nil))))) (fun e_ => ?_)
    refine T.region ?_
    refine TL.cons rfl (V1.t (V1.add (c := ((i + 1 : Nat) : Int)) rfl rfl (by rw [wrap_i64 _ (by omega) (by omega)]; omega)) ?_)
    refine TL.cons rfl (V1.t (V1.move' z_C) ?_)
    refine TL.nil ?_
    exact ⟨(i + 1, s3, L3, s4, L4), L3 ++ (L4 ++ G), _, (by simp only; omega), (.cons rfl (.cons rfl (.cons rfl .nil))), (.cons rfl (.cons rfl .nil)), z_A, ⟨rfl, by simp only; omega, by simp only; rw [take_ev hx0, List.map_append]; exact hs3, by simp only; rw [take_ev hx0, List.map_append]; exact hs4⟩⟩
  ·
    obtain rfl : i = es.length := by omega
    rw [List.take_length] at hs1 hs2
    refine TL.nil ?_
    refine T.seq ?_
    refine T.cond_f rfl ?_
    refine T.exit ?_
    refine T.seq ?_
    refine T.region ?_
    refine TL.cons rfl (V1.t (V1.move' z_C) ?_)
    refine TL.cons rfl (V1.t (V1.move' z_C) ?_)
    refine TL.cons rfl (V1.t (V1.assign' z_C) ?_)
    refine TL.cons rfl (V1.t (V1.assign' z_C) ?_)
    refine TL.nil ?_
    refine T.ret ?_
    exact ⟨_, L1 ++ (L2 ++ G), _, .cons (.tmp z_C) (.cons (.tmp z_C) .nil), z_A, L1 ++ L2, by rw [List.append_assoc], s1, s2, L1, L2, rfl, rfl, hs1, hs2⟩

set_option maxRecDepth 100000 in
set_option maxHeartbeats 8000000 in
theorem same_us (w0 : World) (Ps : List Blk) {who epoch num : Nat} {names : List Nat} {sec : Bool} {a1 a2 : Option Addr} {c1 c2 : Nat} (h1 : RowR w0 Ps 1 (.slice a1 names.length c1) names.length (names.map iV)) (h2 : RowR w0 Ps 1 (.slice a2 names.length c2) names.length (names.map iV)) (hnum : num < 26) (hn6 : names.length ≤ 1000) : FnV P 25 [.agg ([iV who, iV epoch, .slice a1 names.length c1, .int .i64 1, .string (bstr (nmb sText [num])), .slice none 0 0]).toArray, .agg ([iV who, iV epoch, .slice a2 names.length c2, .string (bstr (nmb sText [num])), .bool sec]).toArray] w0 Ps (fun v => v = .bool true) := by
  refine FnV.of 53 [.tmp 4] Go.Proofs.Tryz.func25 rfl rfl rfl rfl (fun G hG => ?_)
  refine T.seq ?_
  refine T.region ?_
  refine TL.cons rfl (T1.boxN 6 rfl rfl (fun b2 => ?_))
  refine TL.cons rfl (T1.boxN 5 rfl rfl (fun b3 => ?_))
  refine TL.cons rfl (V1.t (V1.assign' z_C) ?_)
  refine TL.nil ?_
  refine T.seq ?_
  refine T.seq ?_
  refine T.drawDet' mixed (by decide +kernel) ?_
  refine Det.cons 0 (ins := [(2, _)]) (.old z_C (by decide +kernel) .nil) (fun e_ => .inl ⟨rfl, V1.t (V1.fieldAddr fl_55_0 rfl) ⟨rfl, rfl⟩⟩) ?_
  refine Det.cons 1 (ins := [(6, _)]) (.new 0 0 (by decide +kernel) rfl rfl .nil) (fun e_ => .inl ⟨rfl, V1.t (V1.load1 (v := iV who) one_3 rfl (.own z_D (by rfl))) ⟨rfl, rfl⟩⟩) ?_
  refine Det.cons 2 (ins := [(3, _)]) (.old z_C (by decide +kernel) .nil) (fun e_ => .inl ⟨rfl, V1.t (V1.fieldAddr fl_57_0 rfl) ⟨rfl, rfl⟩⟩) ?_
  refine Det.cons 3 (ins := [(8, _)]) (.new 2 0 (by decide +kernel) rfl rfl .nil) (fun e_ => .inl ⟨rfl, V1.t (V1.load1 (v := iV who) one_3 rfl (.own z_D (by rfl))) ⟨rfl, rfl⟩⟩) ?_
  refine Det.cons 4 (ins := [(7, _), (9, _)]) (.new 1 2 (by decide +kernel) rfl rfl (.new 3 0 (by decide +kernel) rfl rfl .nil)) (fun e_ => .inl ⟨rfl, V1.t (V1.neI (r := false) rfl rfl (decide_eq_false (fun h => h rfl))) ⟨rfl, rfl⟩⟩) ?_
  refine Det.cons 5 (ins := [(10, _)]) (.new 4 0 (by decide +kernel) rfl rfl .nil) (fun e_ => .inl ⟨rfl, V1.t (V1.move' z_C) ⟨rfl, rfl⟩⟩) ?_
  refine Det.cons 6 (ins := [(2, _), (11, _)]) (.old z_C (by decide +kernel) (.new 5 0 (by decide +kernel) rfl rfl .nil)) (fun e_ => .inl ⟨rfl, V1.t (V1.fieldAddr fl_55_1 rfl) ⟨rfl, rfl⟩⟩) ?_
  refine Det.cons 7 (ins := [(11, _), (12, _)]) (.new 5 1 (by decide +kernel) rfl rfl (.new 6 0 (by decide +kernel) rfl rfl .nil)) (fun e_ => .inl ⟨rfl, V1.t (V1.load1 (v := iV epoch) one_3 rfl (.own z_D (by rfl))) ⟨rfl, rfl⟩⟩) ?_
  refine Det.cons 8 (ins := [(3, _), (11, _)]) (.old z_C (by decide +kernel) (.new 5 2 (by decide +kernel) rfl rfl .nil)) (fun e_ => .inl ⟨rfl, V1.t (V1.fieldAddr fl_57_1 rfl) ⟨rfl, rfl⟩⟩) ?_
  refine Det.cons 9 (ins := [(11, _), (14, _)]) (.new 5 3 (by decide +kernel) rfl rfl (.new 8 0 (by decide +kernel) rfl rfl .nil)) (fun e_ => .inl ⟨rfl, V1.t (V1.load1 (v := iV epoch) one_3 rfl (.own z_D (by rfl))) ⟨rfl, rfl⟩⟩) ?_
  refine Det.cons 10 (ins := [(11, _), (13, _), (15, _)]) (.new 5 4 (by decide +kernel) rfl rfl (.new 7 2 (by decide +kernel) rfl rfl (.new 9 0 (by decide +kernel) rfl rfl .nil))) (fun e_ => .inl ⟨rfl, V1.t (V1.neI (r := false) rfl rfl (decide_eq_false (fun h => h rfl))) ⟨rfl, rfl⟩⟩) ?_
  refine Det.cons 11 (ins := [(11, _), (16, _)]) (.new 5 5 (by decide +kernel) rfl rfl (.new 10 0 (by decide +kernel) rfl rfl .nil)) (fun e_ => .inl ⟨rfl, V1.t (V1.pick rfl z_C) ⟨rfl, rfl⟩⟩) ?_
  refine Det.cons 12 (ins := [(17, _)]) (.new 11 0 (by decide +kernel) rfl rfl .nil) (fun e_ => .inl ⟨rfl, V1.t (V1.move' z_C) ⟨rfl, rfl⟩⟩) ?_
  refine Det.cons 13 (ins := [(2, _), (18, _)]) (.old z_C (by decide +kernel) (.new 12 0 (by decide +kernel) rfl rfl .nil)) (fun e_ => .inl ⟨rfl, V1.t (V1.fieldAddr fl_55_3 rfl) ⟨rfl, rfl⟩⟩) ?_
  refine Det.cons 14 (ins := [(18, _), (19, _)]) (.new 12 1 (by decide +kernel) rfl rfl (.new 13 0 (by decide +kernel) rfl rfl .nil)) (fun e_ => .inl ⟨rfl, V1.t (V1.loadN (vs := [.int .i64 1, .string (bstr (nmb sText [num])), .slice none 0 0]) one_24 sz_24 rfl (RdN.mid2 (pre := [iV who, iV epoch, .slice a1 names.length c1]) (cs := [.int .i64 1, .string (bstr (nmb sText [num])), .slice none 0 0]) (post := []) z_D rfl) rfl) ⟨rfl, rfl⟩⟩) ?_
  refine Det.cons 15 (ins := [(18, _), (20, _)]) (v := keyT num) (.new 12 2 (by decide +kernel) rfl rfl (.new 14 0 (by decide +kernel) rfl rfl .nil)) (fun e_ => .inl ⟨rfl, ?_⟩) ?_
  · refine T1.callV has_14 rfl rfl (TString_text w0 num hnum) z_B (fun v_ hv => ?_)
    obtain rfl := hv
    exact ⟨rfl, rfl⟩
  refine Det.cons 16 (ins := [(3, _), (18, _)]) (.old z_C (by decide +kernel) (.new 12 3 (by decide +kernel) rfl rfl .nil)) (fun e_ => .inl ⟨rfl, V1.t (V1.fieldAddr fl_57_3 rfl) ⟨rfl, rfl⟩⟩) ?_
  refine Det.cons 17 (ins := [(18, _), (22, _)]) (.new 12 4 (by decide +kernel) rfl rfl (.new 16 0 (by decide +kernel) rfl rfl .nil)) (fun e_ => .inl ⟨rfl, V1.t (V1.load1 (v := keyT num) one_9 rfl (.own z_D (by rfl))) ⟨rfl, rfl⟩⟩) ?_
  refine Det.cons 18 (ins := [(18, _), (21, _), (23, _)]) (.new 12 5 (by decide +kernel) rfl rfl (.new 15 2 (by decide +kernel) rfl rfl (.new 17 0 (by decide +kernel) rfl rfl .nil))) (fun e_ => .inl ⟨rfl, V1.t (V1.neS (r := false) rfl rfl (decide_eq_false (fun h => h rfl))) ⟨rfl, rfl⟩⟩) ?_
  refine Det.cons 19 (ins := [(18, _), (24, _)]) (.new 12 6 (by decide +kernel) rfl rfl (.new 18 0 (by decide +kernel) rfl rfl .nil)) (fun e_ => .inl ⟨rfl, V1.t (V1.pick rfl z_C) ⟨rfl, rfl⟩⟩) ?_
  refine Det.cons 20 (ins := [(25, _)]) (.new 19 0 (by decide +kernel) rfl rfl .nil) (fun e_ => .inl ⟨rfl, V1.t (V1.move' z_C) ⟨rfl, rfl⟩⟩) ?_
  refine Det.cons 21 (ins := [(2, _), (26, _)]) (.old z_C (by decide +kernel) (.new 20 0 (by decide +kernel) rfl rfl .nil)) (fun e_ => .inl ⟨rfl, V1.t (V1.fieldAddr fl_55_2 rfl) ⟨rfl, rfl⟩⟩) ?_
  refine Det.cons 22 (ins := [(26, _), (27, _)]) (.new 20 1 (by decide +kernel) rfl rfl (.new 21 0 (by decide +kernel) rfl rfl .nil)) (fun e_ => .inl ⟨rfl, V1.t (V1.load1 (v := .slice a1 names.length c1) one_44 rfl (.own z_D (by rfl))) ⟨rfl, rfl⟩⟩) ?_
  refine Det.cons 23 (ins := [(26, _), (28, _)]) (.new 20 2 (by decide +kernel) rfl rfl (.new 22 0 (by decide +kernel) rfl rfl .nil)) (fun e_ => .inl ⟨rfl, V1.t (V1.lenSl ty_44 rfl) ⟨rfl, rfl⟩⟩) ?_
  refine Det.cons 24 (ins := [(3, _), (26, _)]) (.old z_C (by decide +kernel) (.new 20 3 (by decide +kernel) rfl rfl .nil)) (fun e_ => .inl ⟨rfl, V1.t (V1.fieldAddr fl_57_2 rfl) ⟨rfl, rfl⟩⟩) ?_
  refine Det.cons 25 (ins := [(26, _), (30, _)]) (.new 20 4 (by decide +kernel) rfl rfl (.new 24 0 (by decide +kernel) rfl rfl .nil)) (fun e_ => .inl ⟨rfl, V1.t (V1.load1 (v := .slice a2 names.length c2) one_44 rfl (.own z_D (by rfl))) ⟨rfl, rfl⟩⟩) ?_
  refine Det.cons 26 (ins := [(26, _), (31, _)]) (.new 20 5 (by decide +kernel) rfl rfl (.new 25 0 (by decide +kernel) rfl rfl .nil)) (fun e_ => .inl ⟨rfl, V1.t (V1.lenSl ty_44 rfl) ⟨rfl, rfl⟩⟩) ?_
  refine Det.cons 27 (ins := [(26, _), (29, _), (32, _)]) (.new 20 6 (by decide +kernel) rfl rfl (.new 23 3 (by decide +kernel) rfl rfl (.new 26 0 (by decide +kernel) rfl rfl .nil))) (fun e_ => .inl ⟨rfl, V1.t (V1.neI (r := false) rfl rfl (decide_eq_false (fun h => h rfl))) ⟨rfl, rfl⟩⟩) ?_
  refine Det.cons 28 (ins := [(26, _), (33, _)]) (.new 20 7 (by decide +kernel) rfl rfl (.new 27 0 (by decide +kernel) rfl rfl .nil)) (fun e_ => .inl ⟨rfl, V1.t (V1.pick rfl z_C) ⟨rfl, rfl⟩⟩) ?_
  refine Det.nil 29 (l := [(2, _), (3, _), (34, _)]) (.old z_C (by decide +kernel) (.old z_C (by decide +kernel) (.new 28 0 (by decide +kernel) rfl rfl .nil))) (fun e_ => ?_)
  refine T.cond_f rfl ?_
  refine T.skip ?_
  refine T.seq ?_
  refine T.seq ?_
  refine T.region ?_
  refine TL.cons rfl (V1.t (V1.fieldAddr fl_55_2 rfl) ?_)
  refine TL.cons rfl (V1.t (V1.load1 (v := .slice a1 names.length c1) one_44 rfl (.own z_D (by rfl))) ?_)
  refine TL.cons rfl (V1.t (V1.lenSl ty_44 rfl) ?_)
  refine TL.cons rfl (V1.t (V1.move' z_C) ?_)
  refine TL.nil ?_
  refine T.block ?_
  refine T.loopL (σ := Nat) (l0 := [(2, _), (3, _), (37, _)]) (fun x => [(38, .int .i64 (x : Nat))]) (fun i L => L = (⟨b3, 0, [iV who, iV epoch, .slice a2 names.length c2, .string (bstr (nmb sText [num])), .bool sec], 5⟩ : Blk) :: (⟨b2, 0, [iV who, iV epoch, .slice a1 names.length c1, .int .i64 1, .string (bstr (nmb sText [num])), .slice none 0 0], 6⟩ : Blk) :: G ∧ i ≤ names.length) (fun i => names.length - i) 0 (.cons rfl .nil) (.cons z_C (.cons z_C (.cons z_C .nil))) z_A (⟨rfl, Nat.zero_le _⟩) ?_
  rintro i e_ L ⟨rfl, hi⟩
  refine T.seq ?_
  refine T.region ?_
  refine TL.cons rfl (T1.ltI_split rfl rfl (fun h4 => ?_) (fun h4 => ?_))
  ·
    obtain ⟨n, hx0⟩ : ∃ n, names[i]? = some n := ⟨_, List.getElem?_eq_getElem (by omega)⟩
    obtain ⟨b1_, o1_, rfl, hrd1⟩ := h1.at (by omega) P
    obtain ⟨b2_, o2_, rfl, hrd2⟩ := h2.at (by omega) P
    refine TL.nil ?_
    refine T.seq ?_
    refine T.cond_t rfl ?_
    refine T.skip ?_
    refine T.seq ?_
    refine T.block ?_
    refine T.seq ?_
    refine T.region ?_
    refine TL.cons rfl (V1.t (V1.move' z_C) ?_)
    refine TL.cons rfl (V1.t (V1.assign' z_C) ?_)
    refine TL.nil ?_
    refine T.seq ?_
    refine T.drawDet' mixed (by decide +kernel) ?_
    refine Det.cons 0 (ins := [(2, _)]) (.old z_C (by decide +kernel) .nil) (fun e_ => .inl ⟨rfl, V1.t (V1.fieldAddr fl_55_2 rfl) ⟨rfl, rfl⟩⟩) ?_
    refine Det.cons 1 (ins := [(41, _)]) (.new 0 0 (by decide +kernel) rfl rfl .nil) (fun e_ => .inl ⟨rfl, V1.t (V1.load1 (v := .slice (some ⟨b1_, o1_, none⟩) names.length c1) one_44 rfl (.own z_D (by rfl))) ⟨rfl, rfl⟩⟩) ?_
    refine Det.cons 2 (ins := [(5, _)]) (.old z_C (by decide +kernel) .nil) (fun e_ => .inl ⟨rfl, V1.t (V1.move' z_C) ⟨rfl, rfl⟩⟩) ?_
    refine Det.cons 3 (ins := [(42, _), (43, _)]) (.new 1 1 (by decide +kernel) rfl rfl (.new 2 0 (by decide +kernel) rfl rfl .nil)) (fun e_ => .inl ⟨rfl, V1.t (V1.indexAddrS ty_44 sz_3 rfl rfl (by omega) (by omega)) ⟨rfl, rfl⟩⟩) ?_
    refine Det.cons 4 (ins := [(44, _)]) (.new 3 0 (by decide +kernel) rfl rfl .nil) (fun e_ => .inl ⟨rfl, V1.t (V1.load1 (v := iV n) one_3 rfl (show Rd _ _ ⟨_, _ + i * 1, none⟩ _ from by rw [Nat.mul_one]; exact hrd1 _ rfl rfl _ z_B i _ (by rw [List.getElem?_map, hx0]; rfl))) ⟨rfl, rfl⟩⟩) ?_
    refine Det.cons 5 (ins := [(3, _)]) (.old z_C (by decide +kernel) .nil) (fun e_ => .inl ⟨rfl, V1.t (V1.fieldAddr fl_57_2 rfl) ⟨rfl, rfl⟩⟩) ?_
    refine Det.cons 6 (ins := [(46, _)]) (.new 5 0 (by decide +kernel) rfl rfl .nil) (fun e_ => .inl ⟨rfl, V1.t (V1.load1 (v := .slice (some ⟨b2_, o2_, none⟩) names.length c2) one_44 rfl (.own z_D (by rfl))) ⟨rfl, rfl⟩⟩) ?_
    refine Det.cons 7 (ins := [(5, _)]) (.old z_C (by decide +kernel) .nil) (fun e_ => .inl ⟨rfl, V1.t (V1.move' z_C) ⟨rfl, rfl⟩⟩) ?_
    refine Det.cons 8 (ins := [(47, _), (48, _)]) (.new 6 1 (by decide +kernel) rfl rfl (.new 7 0 (by decide +kernel) rfl rfl .nil)) (fun e_ => .inl ⟨rfl, V1.t (V1.indexAddrS ty_44 sz_3 rfl rfl (by omega) (by omega)) ⟨rfl, rfl⟩⟩) ?_
    refine Det.cons 9 (ins := [(49, _)]) (.new 8 0 (by decide +kernel) rfl rfl .nil) (fun e_ => .inl ⟨rfl, V1.t (V1.load1 (v := iV n) one_3 rfl (show Rd _ _ ⟨_, _ + i * 1, none⟩ _ from by rw [Nat.mul_one]; exact hrd2 _ rfl rfl _ z_B i _ (by rw [List.getElem?_map, hx0]; rfl))) ⟨rfl, rfl⟩⟩) ?_
    refine Det.cons 10 (ins := [(45, _), (50, _)]) (.new 4 5 (by decide +kernel) rfl rfl (.new 9 0 (by decide +kernel) rfl rfl .nil)) (fun e_ => .inl ⟨rfl, V1.t (V1.neI (r := false) rfl rfl (decide_eq_false (fun h => h rfl))) ⟨rfl, rfl⟩⟩) ?_
    refine Det.nil 11 (l := [(2, _), (3, _), (37, _), (38, _), (51, _)]) (.old z_C (by decide +kernel) (.old z_C (by decide +kernel) (.old z_C (by decide +kernel) (.old z_C (by decide +kernel) (.new 10 0 (by decide +kernel) rfl rfl .nil))))) (fun e_ => ?_)
    refine T.cond_f rfl ?_
    refine T.skip ?_
    refine T.region ?_
    refine TL.cons rfl (V1.t (V1.add (c := ((i + 1 : Nat) : Int)) rfl rfl (by rw [wrap_i64 _ (by omega) (by omega)]; omega)) ?_)
    refine TL.cons rfl (V1.t (V1.move' z_C) ?_)
    refine TL.nil ?_
    exact ⟨i + 1, (⟨b3, 0, [iV who, iV epoch, .slice (some ⟨b2_, o2_, none⟩) names.length c2, .string (bstr (nmb sText [num])), .bool sec], 5⟩ : Blk) :: (⟨b2, 0, [iV who, iV epoch, .slice (some ⟨b1_, o1_, none⟩) names.length c1, .int .i64 1, .string (bstr (nmb sText [num])), .slice none 0 0], 6⟩ : Blk) :: G, _, (by simp only; omega), (.cons rfl .nil), (.cons rfl (.cons rfl (.cons rfl .nil))), z_A, ⟨rfl, by omega⟩⟩
  ·
    refine TL.nil ?_
    refine T.seq ?_
    refine T.cond_f rfl ?_
    refine T.exit ?_
    refine T.seq ?_
    refine T.region ?_
    refine TL.cons rfl (V1.t (V1.assign' z_C) ?_)
    refine TL.nil ?_
    refine T.ret ?_
    exact ⟨_, G, _, .cons (.tmp z_C) .nil, z_A, rfl, rfl⟩

set_option maxRecDepth 100000 in
set_option maxHeartbeats 8000000 in
theorem SagaRuns_any (w0 : World) (Ps : List Blk) {es : List (Int × Int)} {a : Option Addr} {c : Nat} (hr : RowR w0 Ps 2 (.slice a es.length c) es.length (es.flatMap evC)) (hel : es.length ≤ 8796093022208) : FnV P 4 [.slice a es.length c] w0 Ps (fun v => v = .bool true) := by
  refine FnV.of 117 [.tmp 2] Go.Proofs.Tryz.func4 rfl rfl rfl rfl (fun G hG => ?_)
  refine T.seq ?_
  refine T.region ?_
  refine TL.cons rfl (V1.t (V1.assign' z_C) ?_)
  refine TL.nil ?_
  refine T.seq ?_
  refine T.seq ?_
  refine T.region ?_
  refine TL.cons rfl (T1.callV has_21 rfl rfl (hides_any w0) z_B (fun v_ hv => ?_))
  obtain rfl := hv
  refine TL.cons rfl (V1.t (V1.not rfl rfl) ?_)
  refine TL.nil ?_
  refine T.cond_f rfl ?_
  refine T.skip ?_
  refine T.seq ?_
  refine T.region ?_
  refine TL.cons rfl (V1.t (V1.move' z_C) ?_)
  refine TL.cons rfl (T1.callC has_22 rfl rfl (Run_own w0 Ps hr) z_B (fun v_ Y_ hY => ?_))
  obtain ⟨vt, vk, vb, Lt, Lk, Lb, Q, xt, xk, rfl, rfl, hst, hxt, hsk, hxk, hsb⟩ := hY
  simp only [List.append_assoc]
  obtain ⟨ts, hts, rfl, hA⟩ := hxt.items
  have hlt : ts.length = (sgOut es).told.length := by rw [← hts, List.length_map]
  obtain ⟨hl1, hl2, hl3⟩ := out_lens es
  have hrt := RowR.ofSl (w0 := w0) hst Inc.refl (by decide) ts.length (tdC_len hA)
  obtain ⟨at_, ct_, rfl⟩ := hrt.form
  have hrk := RowR.ofSl (w0 := w0) hsk Inc.refl (by decide) (sgOut es).known.length hxk.len
  obtain ⟨ak_, ck_, rfl⟩ := hrk.form
  have hrb := Sl.nat (w0 := w0) hsb
  obtain ⟨ab_, cb_, rfl⟩ := hrb.form
  refine TL.cons rfl (V1.t (V1.move' z_C) ?_)
  refine TL.cons rfl (V1.t (V1.extract rfl (by rfl)) ?_)
  refine TL.cons rfl (V1.t (V1.extract rfl (by rfl)) ?_)
  refine TL.cons rfl (V1.t (V1.extract rfl (by rfl)) ?_)
  refine TL.cons rfl (V1.t (V1.extract rfl (by rfl)) ?_)
  refine TL.cons rfl (V1.t (V1.assign' z_C) ?_)
  refine TL.cons rfl (V1.t (V1.assign' z_C) ?_)
  refine TL.cons rfl (V1.t (V1.assign' z_C) ?_)
  refine TL.cons rfl (V1.t (V1.assign' z_C) ?_)
  refine TL.nil ?_
  refine T.seq ?_
  refine T.region ?_
  refine TL.cons rfl (V1.t (V1.move' z_C) ?_)
  refine TL.cons rfl (T1.callC has_23 rfl rfl (numbers_any w0 Ps hr hel) z_B (fun v_ Yn hY => ?_))
  obtain ⟨s1, s2, L1, L2, rfl, rfl, hs1, hs2⟩ := hY
  simp only [List.append_assoc]
  have hk1 := RowR.ofSl (w0 := w0) (Ps := L1 ++ L2) hs1 Inc.here (by decide) es.length (by simp)
  have hk2 := RowR.ofSl (w0 := w0) (Ps := L1 ++ L2) hs2 (Inc.skip Inc.refl) (by decide) es.length (by simp)
  obtain ⟨k1, d1, rfl⟩ := hk1.form
  obtain ⟨k2, d2, rfl⟩ := hk2.form
  refine TL.cons rfl (V1.t (V1.move' z_C) ?_)
  refine TL.cons rfl (V1.t (V1.extract rfl (by rfl)) ?_)
  refine TL.cons rfl (V1.t (V1.extract rfl (by rfl)) ?_)
  refine TL.cons rfl (V1.t (V1.assign' z_C) ?_)
  refine TL.cons rfl (V1.t (V1.assign' z_C) ?_)
  refine TL.nil ?_
  refine T.seq ?_
  refine T.live (l := [(3, _), (4, _), (5, _), (6, _), (7, _), (8, _)]) (.cons z_C (.cons z_C (.cons z_C (.cons z_C (.cons z_C (.cons z_C .nil)))))) (fun e_ => ?_)
  refine T.region ?_
  refine TL.cons rfl (V1.t (V1.move' z_C) ?_)
  refine TL.cons rfl (V1.t (V1.move' z_C) ?_)
  refine TL.cons rfl (T1.callC has_24 rfl rfl (RRun_any w0 (L1 ++ L2) hk1 hk2) z_B (fun v_ Yr hY => ?_))
  obtain ⟨ut, uk, ub, Ut, Uk, Ub, U, xs, rfl, rfl, hut, hxs, hxA, huk, hub⟩ := hY
  simp only [List.append_assoc]
  have hxm : xs.map TdX.t = (sgOut es).told := by have h_ := congrArg (List.map Prod.fst) hxs; rw [List.map_map, List.map_map] at h_; simpa [Function.comp_def] using h_
  have hlx : xs.length = (sgOut es).told.length := by rw [← hxm, List.length_map]
  have hru := RowR.ofSl (w0 := w0) hut Inc.refl (by decide) xs.length (tdX_len xs)
  obtain ⟨au_, cu_, rfl⟩ := hru.form
  have hrv := RowR.ofSl (w0 := w0) huk Inc.refl (by decide) (sgOut es).known.length (by simp)
  obtain ⟨av_, cv_, rfl⟩ := hrv.form
  have hrw := Sl.nat (w0 := w0) hub
  obtain ⟨aw_, cw_, rfl⟩ := hrw.form
  refine TL.cons rfl (V1.t (V1.move' z_C) ?_)
  refine TL.cons rfl (V1.t (V1.extract rfl (by rfl)) ?_)
  refine TL.cons rfl (V1.t (V1.extract rfl (by rfl)) ?_)
  refine TL.cons rfl (V1.t (V1.extract rfl (by rfl)) ?_)
  refine TL.cons rfl (V1.t (V1.extract rfl (by rfl)) ?_)
  refine TL.cons rfl (V1.t (V1.assign' z_C) ?_)
  refine TL.cons rfl (V1.t (V1.assign' z_C) ?_)
  refine TL.cons rfl (V1.t (V1.assign' z_C) ?_)
  refine TL.cons rfl (V1.t (V1.assign' z_C) ?_)
  refine TL.nil ?_
  refine T.seq ?_
  refine T.seq ?_
  refine T.region ?_
  refine TL.cons rfl (V1.t (V1.move' z_C) ?_)
  refine TL.cons rfl (V1.t (V1.move' z_C) ?_)
  refine TL.cons rfl (V1.t (V1.neI (r := false) rfl rfl (decide_eq_false (fun h => h rfl))) ?_)
  refine TL.cons rfl (V1.t (V1.move' z_C) ?_)
  refine TL.cons rfl (V1.t (V1.move' z_C) ?_)
  refine TL.cons rfl (V1.t (V1.lenSl ty_43 rfl) ?_)
  refine TL.cons rfl (V1.t (V1.move' z_C) ?_)
  refine TL.cons rfl (V1.t (V1.lenSl ty_49 rfl) ?_)
  refine TL.cons rfl (V1.t (V1.neI (r := false) rfl rfl (decide_eq_false (fun h => h (by rw [hlt, hlx])))) ?_)
  refine TL.cons rfl (V1.t (V1.pick rfl z_C) ?_)
  refine TL.cons rfl (V1.t (V1.move' z_C) ?_)
  refine TL.cons rfl (V1.t (V1.move' z_C) ?_)
  refine TL.cons rfl (V1.t (V1.lenSl ty_22 rfl) ?_)
  refine TL.cons rfl (V1.t (V1.move' z_C) ?_)
  refine TL.cons rfl (V1.t (V1.lenSl ty_50 rfl) ?_)
  refine TL.cons rfl (V1.t (V1.neI (r := false) rfl rfl (decide_eq_false (fun h => h rfl))) ?_)
  refine TL.cons rfl (V1.t (V1.pick rfl z_C) ?_)
  refine TL.cons rfl (V1.t (V1.move' z_C) ?_)
  refine TL.cons rfl (V1.t (V1.move' z_C) ?_)
  refine TL.cons rfl (V1.t (V1.lenSl ty_44 rfl) ?_)
  refine TL.cons rfl (V1.t (V1.move' z_C) ?_)
  refine TL.cons rfl (V1.t (V1.lenSl ty_44 rfl) ?_)
  refine TL.cons rfl (V1.t (V1.neI (r := false) rfl rfl (decide_eq_false (fun h => h rfl))) ?_)
  refine TL.cons rfl (V1.t (V1.pick rfl z_C) ?_)
  refine TL.nil ?_
  refine T.cond_f rfl ?_
  refine T.skip ?_
  refine T.seq ?_
  refine T.seq ?_
  refine T.live (l := [(3, _), (4, _), (5, _), (9, _), (10, _), (11, _)]) (.cons z_C (.cons z_C (.cons z_C (.cons z_C (.cons z_C (.cons z_C .nil)))))) (fun e_ => ?_)
  refine T.region ?_
  refine TL.cons rfl (V1.t (V1.move' z_C) ?_)
  refine TL.cons rfl (V1.t (V1.lenSl ty_43 rfl) ?_)
  refine TL.cons rfl (V1.t (V1.move' z_C) ?_)
  refine TL.nil ?_
  refine T.block ?_
  refine T.loopL (σ := Nat) (l0 := [(3, _), (4, _), (5, _), (9, _), (10, _), (11, _), (63, _)]) (fun x => [(64, .int .i64 (x : Nat))]) (fun i L => L = (Ut ++ (Uk ++ (Ub ++ (U ++ (L1 ++ (L2 ++ (Lt ++ (Lk ++ (Lb ++ (Q ++ G)))))))))) ∧ i ≤ ts.length) (fun i => ts.length - i) 0 (.cons rfl .nil) (.cons z_C (.cons z_C (.cons z_C (.cons z_C (.cons z_C (.cons z_C (.cons z_C .nil))))))) z_A (⟨rfl, Nat.zero_le _⟩) ?_
  rintro i e_ L ⟨rfl, hi⟩
  refine T.seq ?_
  refine T.region ?_
  refine TL.cons rfl (T1.ltI_split rfl rfl (fun h9 => ?_) (fun h9 => ?_))
  ·
    obtain ⟨x, hx0⟩ : ∃ x, ts[i]? = some x := ⟨_, List.getElem?_eq_getElem (by omega)⟩
    obtain ⟨y, hy0⟩ : ∃ y, xs[i]? = some y := ⟨_, List.getElem?_eq_getElem (by omega)⟩
    have hx := hA x (List.mem_of_getElem? hx0)
    have hy := hxA y (List.mem_of_getElem? hy0)
    have hx1 : (sgOut es).told[i]? = some x.1 := by rw [← hts, List.getElem?_map, hx0]; rfl
    have hxy : y.t = x.1 := by rw [← hxm, List.getElem?_map, hy0] at hx1; exact Option.some.inj hx1
    obtain ⟨hn26, hn6⟩ := out_told hx1
    obtain ⟨⟨who, ep, nms, num⟩, cs⟩ := x
    obtain ⟨ty, sec, a2, c2⟩ := y
    dsimp only at hxy hx hy hn26 hn6
    subst hxy
    obtain ⟨a1, c1, rfl, hrn⟩ := hx
    obtain ⟨b_, o_, rfl, hrd⟩ := hrt.at (by omega) P
    obtain ⟨bu_, ou_, rfl, hrdu⟩ := hru.at (by omega) P
    refine TL.nil ?_
    refine T.seq ?_
    refine T.cond_t rfl ?_
    refine T.skip ?_
    refine T.seq ?_
    refine T.block ?_
    refine T.seq ?_
    refine T.region ?_
    refine TL.cons rfl (V1.t (V1.move' z_C) ?_)
    refine TL.cons rfl (V1.t (V1.assign' z_C) ?_)
    refine TL.nil ?_
    refine T.seq ?_
    refine T.drawDet' mixed (by decide +kernel) ?_
    refine Det.cons 0 (ins := [(3, _)]) (.old z_C (by decide +kernel) .nil) (fun e_ => .inl ⟨rfl, V1.t (V1.move' z_C) ⟨rfl, rfl⟩⟩) ?_
    refine Det.cons 1 (ins := [(13, _)]) (.old z_C (by decide +kernel) .nil) (fun e_ => .inl ⟨rfl, V1.t (V1.move' z_C) ⟨rfl, rfl⟩⟩) ?_
    refine Det.cons 2 (ins := [(67, _), (68, _)]) (.new 0 1 (by decide +kernel) rfl rfl (.new 1 0 (by decide +kernel) rfl rfl .nil)) (fun e_ => .inl ⟨rfl, V1.t (V1.indexAddrS ty_43 sz_55 rfl rfl (by omega) (by omega)) ⟨rfl, rfl⟩⟩) ?_
    refine Det.cons 3 (ins := [(69, _)]) (.new 2 0 (by decide +kernel) rfl rfl .nil) (fun e_ => .inl ⟨rfl, V1.t (V1.loadN (vs := [iV who, iV ep, .slice a1 nms.length c1, .int .i64 1, .string (bstr (nmb sText [num])), .slice none 0 0]) one_55 sz_55 rfl (tdC_rd hA hx0 rfl (hrd _ rfl rfl _ z_B)) rfl) ⟨rfl, rfl⟩⟩) ?_
    refine Det.cons 4 (ins := [(9, _)]) (.old z_C (by decide +kernel) .nil) (fun e_ => .inl ⟨rfl, V1.t (V1.move' z_C) ⟨rfl, rfl⟩⟩) ?_
    refine Det.cons 5 (ins := [(13, _)]) (.old z_C (by decide +kernel) .nil) (fun e_ => .inl ⟨rfl, V1.t (V1.move' z_C) ⟨rfl, rfl⟩⟩) ?_
    refine Det.cons 6 (ins := [(71, _), (72, _)]) (.new 4 1 (by decide +kernel) rfl rfl (.new 5 0 (by decide +kernel) rfl rfl .nil)) (fun e_ => .inl ⟨rfl, V1.t (V1.indexAddrS ty_49 sz_57 rfl rfl (by omega) (by omega)) ⟨rfl, rfl⟩⟩) ?_
    refine Det.cons 7 (ins := [(73, _)]) (.new 6 0 (by decide +kernel) rfl rfl .nil) (fun e_ => .inl ⟨rfl, V1.t (V1.loadN (vs := [iV who, iV ep, .slice a2 nms.length c2, .string (bstr (nmb sText [num])), .bool sec]) one_57 sz_57 rfl (show RdN _ _ _ (TdX.cells ⟨⟨who, ep, nms, num⟩, sec, a2, c2⟩) from tdX_rd hy0 (hrdu _ rfl rfl _ z_B)) rfl) ⟨rfl, rfl⟩⟩) ?_
    refine Det.cons 8 (ins := [(70, _), (74, _)]) (v := .bool true) (.new 3 4 (by decide +kernel) rfl rfl (.new 7 0 (by decide +kernel) rfl rfl .nil)) (fun e_ => .inl ⟨rfl, ?_⟩) ?_
    · refine T1.callV has_25 rfl rfl (same_us w0 (U ++ Q) (who := who) (epoch := ep) (num := num) (names := nms) (sec := sec) (a1 := a1) (a2 := a2) (c1 := c1) (c2 := c2) (hrn.more (by rw [List.append_nil]; exact Inc.skip Inc.refl)) (hy.more Inc.here) hn26 (by omega)) z_B (fun v_ hv => ?_)
      obtain rfl := hv
      exact ⟨rfl, rfl⟩
    refine Det.cons 9 (ins := [(75, _)]) (.new 8 0 (by decide +kernel) rfl rfl .nil) (fun e_ => .inl ⟨rfl, V1.t (V1.not rfl rfl) ⟨rfl, rfl⟩⟩) ?_
    refine Det.nil 10 (l := [(3, _), (4, _), (5, _), (9, _), (10, _), (11, _), (63, _), (64, _), (76, _)]) (.old z_C (by decide +kernel) (.old z_C (by decide +kernel) (.old z_C (by decide +kernel) (.old z_C (by decide +kernel) (.old z_C (by decide +kernel) (.old z_C (by decide +kernel) (.old z_C (by decide +kernel) (.old z_C (by decide +kernel) (.new 9 0 (by decide +kernel) rfl rfl .nil))))))))) (fun e_ => ?_)
    refine T.cond_f rfl ?_
    refine T.skip ?_
    refine T.region ?_
    refine TL.cons rfl (V1.t (V1.add (c := ((i + 1 : Nat) : Int)) rfl rfl (by rw [wrap_i64 _ (by omega) (by omega)]; omega)) ?_)
    refine TL.cons rfl (V1.t (V1.move' z_C) ?_)
    refine TL.nil ?_
    exact ⟨i + 1, (Ut ++ (Uk ++ (Ub ++ (U ++ (L1 ++ (L2 ++ (Lt ++ (Lk ++ (Lb ++ (Q ++ G)))))))))), _, (by simp only; omega), (.cons rfl .nil), (.cons rfl (.cons rfl (.cons rfl (.cons rfl (.cons rfl (.cons rfl (.cons rfl .nil))))))), z_A, ⟨rfl, by omega⟩⟩
  ·
    refine TL.nil ?_
    refine T.seq ?_
    refine T.cond_f rfl ?_
    refine T.exit ?_
    refine T.seq ?_
    refine T.seq ?_
    refine T.region ?_
    refine TL.cons rfl (V1.t (V1.move' z_C) ?_)
    refine TL.cons rfl (V1.t (V1.lenSl ty_22 rfl) ?_)
    refine TL.cons rfl (V1.t (V1.move' z_C) ?_)
    refine TL.nil ?_
    refine T.block ?_
    refine T.loopL (σ := Nat) (l0 := [(4, _), (5, _), (10, _), (11, _), (79, _)]) (fun x => [(80, .int .i64 (x : Nat))]) (fun i L => L = (Ut ++ (Uk ++ (Ub ++ (U ++ (L1 ++ (L2 ++ (Lt ++ (Lk ++ (Lb ++ (Q ++ G)))))))))) ∧ i ≤ (sgOut es).known.length) (fun i => (sgOut es).known.length - i) 0 (.cons rfl .nil) (.cons z_C (.cons z_C (.cons z_C (.cons z_C (.cons z_C .nil))))) z_A (⟨rfl, Nat.zero_le _⟩) ?_
    rintro i e_ L ⟨rfl, hi⟩
    refine T.seq ?_
    refine T.region ?_
    refine TL.cons rfl (T1.ltI_split rfl rfl (fun h15 => ?_) (fun h15 => ?_))
    ·
      obtain ⟨x, hx0⟩ : ∃ x, (sgOut es).known[i]? = some x := ⟨_, List.getElem?_eq_getElem (by omega)⟩
      have hck := out_known (List.mem_of_getElem? hx0)
      obtain ⟨hc1, hc2, hc3⟩ := chk_iff.1 hck
      obtain ⟨b_, o_, cs, rfl, hx, hrd⟩ := hrk.term hxk hx0 P
      obtain ⟨bv_, ov_, rfl, hrdv⟩ := hrv.at (by omega) P
      obtain ⟨kx, nx_, asx⟩ := x
      obtain ⟨a5, c5, vs5, rfl, _, _, _⟩ := hx.inv
      refine TL.nil ?_
      refine T.seq ?_
      refine T.cond_t rfl ?_
      refine T.skip ?_
      refine T.seq ?_
      refine T.block ?_
      refine T.seq ?_
      refine T.region ?_
      refine TL.cons rfl (V1.t (V1.move' z_C) ?_)
      refine TL.cons rfl (V1.t (V1.assign' z_C) ?_)
      refine TL.nil ?_
      refine T.seq ?_
      refine T.drawDet' mixed (by decide +kernel) ?_
      refine Det.cons 0 (ins := [(4, _)]) (.old z_C (by decide +kernel) .nil) (fun e_ => .inl ⟨rfl, V1.t (V1.move' z_C) ⟨rfl, rfl⟩⟩) ?_
      refine Det.cons 1 (ins := [(14, _)]) (.old z_C (by decide +kernel) .nil) (fun e_ => .inl ⟨rfl, V1.t (V1.move' z_C) ⟨rfl, rfl⟩⟩) ?_
      refine Det.cons 2 (ins := [(83, _), (84, _)]) (.new 0 1 (by decide +kernel) rfl rfl (.new 1 0 (by decide +kernel) rfl rfl .nil)) (fun e_ => .inl ⟨rfl, V1.t (V1.indexAddrS ty_22 sz_24 rfl rfl (by omega) (by omega)) ⟨rfl, rfl⟩⟩) ?_
      refine Det.cons 3 (ins := [(85, _)]) (.new 2 0 (by decide +kernel) rfl rfl .nil) (fun e_ => .inl ⟨rfl, V1.t (V1.loadN (vs := [.int .i64 kx, .string (bstr nx_), .slice a5 asx.length c5]) one_24 sz_24 rfl (hrd _ rfl rfl _ z_B) rfl) ⟨rfl, rfl⟩⟩) ?_
      refine Det.cons 4 (ins := [(86, _)]) (v := kV (.mk kx nx_ asx)) (.new 3 0 (by decide +kernel) rfl rfl .nil) (fun e_ => .inl ⟨rfl, ?_⟩) ?_
      · refine T1.callV has_14 rfl rfl (TString_any w0 (Q ++ []) (.mk kx nx_ asx) hx hc3 (by omega)) z_B (fun v_ hv => ?_)
        obtain rfl := hv
        exact ⟨rfl, rfl⟩
      refine Det.cons 5 (ins := [(10, _)]) (.old z_C (by decide +kernel) .nil) (fun e_ => .inl ⟨rfl, V1.t (V1.move' z_C) ⟨rfl, rfl⟩⟩) ?_
      refine Det.cons 6 (ins := [(14, _)]) (.old z_C (by decide +kernel) .nil) (fun e_ => .inl ⟨rfl, V1.t (V1.move' z_C) ⟨rfl, rfl⟩⟩) ?_
      refine Det.cons 7 (ins := [(88, _), (89, _)]) (.new 5 1 (by decide +kernel) rfl rfl (.new 6 0 (by decide +kernel) rfl rfl .nil)) (fun e_ => .inl ⟨rfl, V1.t (V1.indexAddrS ty_50 sz_9 rfl rfl (by omega) (by omega)) ⟨rfl, rfl⟩⟩) ?_
      refine Det.cons 8 (ins := [(90, _)]) (.new 7 0 (by decide +kernel) rfl rfl .nil) (fun e_ => .inl ⟨rfl, V1.t (V1.load1 (v := kV (.mk kx nx_ asx)) one_9 rfl (show Rd _ _ ⟨_, _ + i * 1, none⟩ _ from by rw [Nat.mul_one]; exact hrdv _ rfl rfl _ z_B i _ (by rw [List.getElem?_map, hx0]; rfl))) ⟨rfl, rfl⟩⟩) ?_
      refine Det.cons 9 (ins := [(87, _), (91, _)]) (.new 4 4 (by decide +kernel) rfl rfl (.new 8 0 (by decide +kernel) rfl rfl .nil)) (fun e_ => .inl ⟨rfl, V1.t (V1.neS (r := false) rfl rfl (decide_eq_false (fun h => h rfl))) ⟨rfl, rfl⟩⟩) ?_
      refine Det.cons 10 (ins := [(92, _)]) (.new 9 0 (by decide +kernel) rfl rfl .nil) (fun e_ => .inl ⟨rfl, V1.t (V1.move' z_C) ⟨rfl, rfl⟩⟩) ?_
      refine Det.cons 11 (ins := [(4, _), (93, _)]) (.old z_C (by decide +kernel) (.new 10 0 (by decide +kernel) rfl rfl .nil)) (fun e_ => .inl ⟨rfl, V1.t (V1.move' z_C) ⟨rfl, rfl⟩⟩) ?_
      refine Det.cons 12 (ins := [(14, _), (93, _)]) (.old z_C (by decide +kernel) (.new 10 1 (by decide +kernel) rfl rfl .nil)) (fun e_ => .inl ⟨rfl, V1.t (V1.move' z_C) ⟨rfl, rfl⟩⟩) ?_
      refine Det.cons 13 (ins := [(93, _), (94, _), (95, _)]) (.new 10 2 (by decide +kernel) rfl rfl (.new 11 1 (by decide +kernel) rfl rfl (.new 12 0 (by decide +kernel) rfl rfl .nil))) (fun e_ => .inl ⟨rfl, V1.t (V1.indexAddrS ty_22 sz_24 rfl rfl (by omega) (by omega)) ⟨rfl, rfl⟩⟩) ?_
      refine Det.cons 14 (ins := [(93, _), (96, _)]) (.new 10 3 (by decide +kernel) rfl rfl (.new 13 0 (by decide +kernel) rfl rfl .nil)) (fun e_ => .inl ⟨rfl, V1.t (V1.loadN (vs := [.int .i64 kx, .string (bstr nx_), .slice a5 asx.length c5]) one_24 sz_24 rfl (hrd _ rfl rfl _ z_B) rfl) ⟨rfl, rfl⟩⟩) ?_
      refine Det.cons 15 (ins := [(93, _), (97, _)]) (v := .int .i64 0) (.new 10 4 (by decide +kernel) rfl rfl (.new 14 0 (by decide +kernel) rfl rfl .nil)) (fun e_ => .inl ⟨rfl, ?_⟩) ?_
      · refine T1.callV has_13 rfl rfl (Check_any w0 (Q ++ []) (.mk kx nx_ asx) _ hx) z_B (fun v_ hv => ?_)
        obtain rfl := hv
        rw [hck]
        exact ⟨rfl, rfl⟩
      refine Det.cons 16 (ins := [(93, _), (98, _)]) (.new 10 5 (by decide +kernel) rfl rfl (.new 15 0 (by decide +kernel) rfl rfl .nil)) (fun e_ => .inl ⟨rfl, V1.t (V1.neI (r := false) rfl rfl (by decide)) ⟨rfl, rfl⟩⟩) ?_
      refine Det.cons 17 (ins := [(93, _), (99, _)]) (.new 10 6 (by decide +kernel) rfl rfl (.new 16 0 (by decide +kernel) rfl rfl .nil)) (fun e_ => .inl ⟨rfl, V1.t (V1.pick rfl z_C) ⟨rfl, rfl⟩⟩) ?_
      refine Det.nil 18 (l := [(4, _), (5, _), (10, _), (11, _), (79, _), (80, _), (100, _)]) (.old z_C (by decide +kernel) (.old z_C (by decide +kernel) (.old z_C (by decide +kernel) (.old z_C (by decide +kernel) (.old z_C (by decide +kernel) (.old z_C (by decide +kernel) (.new 17 0 (by decide +kernel) rfl rfl .nil))))))) (fun e_ => ?_)
      refine T.cond_f rfl ?_
      refine T.skip ?_
      refine T.region ?_
      refine TL.cons rfl (V1.t (V1.add (c := ((i + 1 : Nat) : Int)) rfl rfl (by rw [wrap_i64 _ (by omega) (by omega)]; omega)) ?_)
      refine TL.cons rfl (V1.t (V1.move' z_C) ?_)
      refine TL.nil ?_
      exact ⟨i + 1, (Ut ++ (Uk ++ (Ub ++ (U ++ (L1 ++ (L2 ++ (Lt ++ (Lk ++ (Lb ++ (Q ++ G)))))))))), _, (by simp only; omega), (.cons rfl .nil), (.cons rfl (.cons rfl (.cons rfl (.cons rfl (.cons rfl .nil))))), z_A, ⟨rfl, by omega⟩⟩
    ·
      refine TL.nil ?_
      refine T.seq ?_
      refine T.cond_f rfl ?_
      refine T.exit ?_
      refine T.seq ?_
      refine T.seq ?_
      refine T.region ?_
      refine TL.cons rfl (V1.t (V1.move' z_C) ?_)
      refine TL.cons rfl (V1.t (V1.lenSl ty_44 rfl) ?_)
      refine TL.cons rfl (V1.t (V1.move' z_C) ?_)
      refine TL.nil ?_
      refine T.block ?_
      refine T.loopL (σ := Nat) (l0 := [(5, _), (11, _), (103, _)]) (fun x => [(104, .int .i64 (x : Nat))]) (fun i L => L = (Ut ++ (Uk ++ (Ub ++ (U ++ (L1 ++ (L2 ++ (Lt ++ (Lk ++ (Lb ++ (Q ++ G)))))))))) ∧ i ≤ (sgOut es).bare.length) (fun i => (sgOut es).bare.length - i) 0 (.cons rfl .nil) (.cons z_C (.cons z_C (.cons z_C .nil))) z_A (⟨rfl, Nat.zero_le _⟩) ?_
      rintro i e_ L ⟨rfl, hi⟩
      refine T.seq ?_
      refine T.region ?_
      refine TL.cons rfl (T1.ltI_split rfl rfl (fun h21 => ?_) (fun h21 => ?_))
      ·
        obtain ⟨n, hx0⟩ : ∃ n, (sgOut es).bare[i]? = some n := ⟨_, List.getElem?_eq_getElem (by omega)⟩
        obtain ⟨b_, o_, rfl, hrd1⟩ := hrb.at (by omega) P
        obtain ⟨bw_, ow_, rfl, hrd2⟩ := hrw.at (by omega) P
        refine TL.nil ?_
        refine T.seq ?_
        refine T.cond_t rfl ?_
        refine T.skip ?_
        refine T.seq ?_
        refine T.block ?_
        refine T.seq ?_
        refine T.region ?_
        refine TL.cons rfl (V1.t (V1.move' z_C) ?_)
        refine TL.cons rfl (V1.t (V1.assign' z_C) ?_)
        refine TL.nil ?_
        refine T.seq ?_
        refine T.drawDet' mixed (by decide +kernel) ?_
        refine Det.cons 0 (ins := [(5, _)]) (.old z_C (by decide +kernel) .nil) (fun e_ => .inl ⟨rfl, V1.t (V1.move' z_C) ⟨rfl, rfl⟩⟩) ?_
        refine Det.cons 1 (ins := [(15, _)]) (.old z_C (by decide +kernel) .nil) (fun e_ => .inl ⟨rfl, V1.t (V1.move' z_C) ⟨rfl, rfl⟩⟩) ?_
        refine Det.cons 2 (ins := [(107, _), (108, _)]) (.new 0 1 (by decide +kernel) rfl rfl (.new 1 0 (by decide +kernel) rfl rfl .nil)) (fun e_ => .inl ⟨rfl, V1.t (V1.indexAddrS ty_44 sz_3 rfl rfl (by omega) (by omega)) ⟨rfl, rfl⟩⟩) ?_
        refine Det.cons 3 (ins := [(109, _)]) (.new 2 0 (by decide +kernel) rfl rfl .nil) (fun e_ => .inl ⟨rfl, V1.t (V1.load1 (v := iV n) one_3 rfl (show Rd _ _ ⟨_, _ + i * 1, none⟩ _ from by rw [Nat.mul_one]; exact hrd1 _ rfl rfl _ z_B i _ (by rw [List.getElem?_map, hx0]; rfl))) ⟨rfl, rfl⟩⟩) ?_
        refine Det.cons 4 (ins := [(11, _)]) (.old z_C (by decide +kernel) .nil) (fun e_ => .inl ⟨rfl, V1.t (V1.move' z_C) ⟨rfl, rfl⟩⟩) ?_
        refine Det.cons 5 (ins := [(15, _)]) (.old z_C (by decide +kernel) .nil) (fun e_ => .inl ⟨rfl, V1.t (V1.move' z_C) ⟨rfl, rfl⟩⟩) ?_
        refine Det.cons 6 (ins := [(111, _), (112, _)]) (.new 4 1 (by decide +kernel) rfl rfl (.new 5 0 (by decide +kernel) rfl rfl .nil)) (fun e_ => .inl ⟨rfl, V1.t (V1.indexAddrS ty_44 sz_3 rfl rfl (by omega) (by omega)) ⟨rfl, rfl⟩⟩) ?_
        refine Det.cons 7 (ins := [(113, _)]) (.new 6 0 (by decide +kernel) rfl rfl .nil) (fun e_ => .inl ⟨rfl, V1.t (V1.load1 (v := iV n) one_3 rfl (show Rd _ _ ⟨_, _ + i * 1, none⟩ _ from by rw [Nat.mul_one]; exact hrd2 _ rfl rfl _ z_B i _ (by rw [List.getElem?_map, hx0]; rfl))) ⟨rfl, rfl⟩⟩) ?_
        refine Det.cons 8 (ins := [(110, _), (114, _)]) (.new 3 4 (by decide +kernel) rfl rfl (.new 7 0 (by decide +kernel) rfl rfl .nil)) (fun e_ => .inl ⟨rfl, V1.t (V1.neI (r := false) rfl rfl (decide_eq_false (fun h => h rfl))) ⟨rfl, rfl⟩⟩) ?_
        refine Det.nil 9 (l := [(5, _), (11, _), (103, _), (104, _), (115, _)]) (.old z_C (by decide +kernel) (.old z_C (by decide +kernel) (.old z_C (by decide +kernel) (.old z_C (by decide +kernel) (.new 8 0 (by decide +kernel) rfl rfl .nil))))) (fun e_ => ?_)
        refine T.cond_f rfl ?_
        refine T.skip ?_
        refine T.region ?_
        refine TL.cons rfl (V1.t (V1.add (c := ((i + 1 : Nat) : Int)) rfl rfl (by rw [wrap_i64 _ (by omega) (by omega)]; omega)) ?_)
        refine TL.cons rfl (V1.t (V1.move' z_C) ?_)
        refine TL.nil ?_
        exact ⟨i + 1, (Ut ++ (Uk ++ (Ub ++ (U ++ (L1 ++ (L2 ++ (Lt ++ (Lk ++ (Lb ++ (Q ++ G)))))))))), _, (by simp only; omega), (.cons rfl .nil), (.cons rfl (.cons rfl (.cons rfl .nil))), z_A, ⟨rfl, by omega⟩⟩
      ·
        refine TL.nil ?_
        refine T.seq ?_
        refine T.cond_f rfl ?_
        refine T.exit ?_
        refine T.seq ?_
        refine T.region ?_
        refine TL.cons rfl (V1.t (V1.assign' z_C) ?_)
        refine TL.nil ?_
        refine T.ret ?_
        exact ⟨_, G, _, .cons (.tmp z_C) .nil, z_A, rfl, rfl⟩

theorem filt_t {xs : List TdX} {i : Nat} {e : TdX} (h : xs[i]? = some e) (hs : e.sec = true) : (xs.take (i + 1)).filter (·.sec) = (xs.take i).filter (·.sec) ++ [e] := by
  rw [List.take_add_one, h, List.filter_append]; simp [hs]
theorem filt_f {xs : List TdX} {i : Nat} {e : TdX} (h : xs[i]? = some e) (hs : e.sec = false) : (xs.take (i + 1)).filter (·.sec) = (xs.take i).filter (·.sec) := by
  rw [List.take_add_one, h, List.filter_append]; simp [hs]
set_option maxRecDepth 100000 in
set_option maxHeartbeats 8000000 in
theorem SagaSecret_any (w0 : World) (Ps : List Blk) {es : List (Int × Int)} {a : Option Addr} {c : Nat} (hr : RowR w0 Ps 2 (.slice a es.length c) es.length (es.flatMap evC)) (hel : es.length ≤ 8796093022208) : FnV P 5 [.slice a es.length c] w0 Ps (fun v => v = .bool true) := by
  refine FnV.of 72 [.tmp 2] Go.Proofs.Tryz.func5 rfl rfl rfl rfl (fun G hG => ?_)
  refine T.seq ?_
  refine T.region ?_
  refine TL.cons rfl (V1.t (V1.assign' z_C) ?_)
  refine TL.nil ?_
  refine T.seq ?_
  refine T.seq ?_
  refine T.region ?_
  refine TL.cons rfl (T1.callV has_21 rfl rfl (hides_any w0) z_B (fun v_ hv => ?_))
  obtain rfl := hv
  refine TL.cons rfl (V1.t (V1.not rfl rfl) ?_)
  refine TL.nil ?_
  refine T.cond_f rfl ?_
  refine T.skip ?_
  refine T.seq ?_
  refine T.region ?_
  refine TL.cons rfl (V1.t (V1.move' z_C) ?_)
  refine TL.cons rfl (T1.callC has_26 rfl rfl (Secret_us w0 Ps hr) z_B (fun v_ Y_ hY => ?_))
  obtain ⟨vt, xt, Lt, Q, rfl, rfl, hst, hxt⟩ := hY
  simp only [List.append_assoc]
  obtain ⟨ts, hts, rfl, hA⟩ := hxt.items
  have hlt : ts.length = (secL es).length := by rw [← hts, List.length_map]
  obtain ⟨hl1, hl2, hl3⟩ := out_lens es
  have hsl : (secL es).length ≤ (sgOut es).told.length := List.length_filter_le _ _
  have hrt := RowR.ofSl (w0 := w0) hst Inc.refl (by decide) ts.length (tdC_len hA)
  obtain ⟨at_, ct_, rfl⟩ := hrt.form
  refine TL.cons rfl (V1.t (V1.move' z_C) ?_)
  refine TL.cons rfl (V1.t (V1.extract rfl (by rfl)) ?_)
  refine TL.cons rfl (V1.t (V1.extract rfl (by rfl)) ?_)
  refine TL.cons rfl (V1.t (V1.assign' z_C) ?_)
  refine TL.cons rfl (V1.t (V1.assign' z_C) ?_)
  refine TL.nil ?_
  refine T.seq ?_
  refine T.region ?_
  refine TL.cons rfl (V1.t (V1.move' z_C) ?_)
  refine TL.cons rfl (T1.callC has_23 rfl rfl (numbers_any w0 Ps hr hel) z_B (fun v_ Yn hY => ?_))
  obtain ⟨s1, s2, L1, L2, rfl, rfl, hs1, hs2⟩ := hY
  simp only [List.append_assoc]
  have hk1 := RowR.ofSl (w0 := w0) (Ps := L1 ++ L2) hs1 Inc.here (by decide) es.length (by simp)
  have hk2 := RowR.ofSl (w0 := w0) (Ps := L1 ++ L2) hs2 (Inc.skip Inc.refl) (by decide) es.length (by simp)
  obtain ⟨k1, d1, rfl⟩ := hk1.form
  obtain ⟨k2, d2, rfl⟩ := hk2.form
  refine TL.cons rfl (V1.t (V1.move' z_C) ?_)
  refine TL.cons rfl (V1.t (V1.extract rfl (by rfl)) ?_)
  refine TL.cons rfl (V1.t (V1.extract rfl (by rfl)) ?_)
  refine TL.cons rfl (V1.t (V1.assign' z_C) ?_)
  refine TL.cons rfl (V1.t (V1.assign' z_C) ?_)
  refine TL.nil ?_
  refine T.seq ?_
  refine T.live (l := [(3, _), (4, _), (5, _), (6, _)]) (.cons z_C (.cons z_C (.cons z_C (.cons z_C .nil)))) (fun e_ => ?_)
  refine T.region ?_
  refine TL.cons rfl (V1.t (V1.move' z_C) ?_)
  refine TL.cons rfl (V1.t (V1.move' z_C) ?_)
  refine TL.cons rfl (T1.callC has_24 rfl rfl (RRun_any w0 (L1 ++ L2) hk1 hk2) z_B (fun v_ Yr hY => ?_))
  obtain ⟨ut, uk, ub, Ut, Uk, Ub, U, xs, rfl, rfl, hut, hxs, hxA, huk, hub⟩ := hY
  simp only [List.append_assoc]
  have hxm : xs.map TdX.t = (sgOut es).told := by have h_ := congrArg (List.map Prod.fst) hxs; rw [List.map_map, List.map_map] at h_; simpa [Function.comp_def] using h_
  have hlx : xs.length = (sgOut es).told.length := by rw [← hxm, List.length_map]
  have hru := RowR.ofSl (w0 := w0) hut Inc.refl (by decide) xs.length (tdX_len xs)
  obtain ⟨au_, cu_, rfl⟩ := hru.form
  have hfm := sec_xs hxs
  have hfl : (xs.filter (·.sec)).length = (secL es).length := by rw [← hfm, List.length_map]
  refine TL.cons rfl (V1.t (V1.move' z_C) ?_)
  refine TL.cons rfl (V1.t (V1.extract rfl (by rfl)) ?_)
  refine TL.cons rfl (V1.t (V1.extract rfl (by rfl)) ?_)
  refine TL.cons rfl (V1.t (V1.extract rfl (by rfl)) ?_)
  refine TL.cons rfl (V1.t (V1.extract rfl (by rfl)) ?_)
  refine TL.cons rfl (V1.t (V1.assign' z_C) ?_)
  refine TL.cons rfl (V1.t (V1.assign' z_C) ?_)
  refine TL.cons rfl (V1.t (V1.assign' z_C) ?_)
  refine TL.cons rfl (V1.t (V1.assign' z_C) ?_)
  refine TL.nil ?_
  refine T.seq ?_
  refine T.seq ?_
  refine T.region ?_
  refine TL.cons rfl (V1.t (V1.move' z_C) ?_)
  refine TL.cons rfl (V1.t (V1.move' z_C) ?_)
  refine TL.cons rfl (V1.t (V1.neI (r := false) rfl rfl (decide_eq_false (fun h => h rfl))) ?_)
  refine TL.nil ?_
  refine T.cond_f rfl ?_
  refine T.skip ?_
  refine T.seq ?_
  refine T.live (l := [(3, _), (7, _)]) (.cons z_C (.cons z_C .nil)) (fun e_ => ?_)
  refine T.region ?_
  refine TL.cons rfl (V1.t (V1.assign' z_C) ?_)
  refine TL.nil ?_
  refine T.seq ?_
  refine T.seq ?_
  refine T.region ?_
  refine TL.cons rfl (V1.t (V1.move' z_C) ?_)
  refine TL.cons rfl (V1.t (V1.lenSl ty_49 rfl) ?_)
  refine TL.cons rfl (V1.t (V1.move' z_C) ?_)
  refine TL.nil ?_
  refine T.block ?_
  refine T.loopL (σ := Nat × Value × List Blk) (l0 := [(3, _), (38, _), (39, _)]) (fun x => [(40, .int .i64 (x.1 : Nat)), (11, x.2.1)]) (fun x L => L = x.2.2 ++ (Ut ++ (Uk ++ (Ub ++ (U ++ (L1 ++ (L2 ++ (Lt ++ (Q ++ G)))))))) ∧ x.1 ≤ xs.length ∧ SlG (some 57) x.2.1 (tdX ((xs.take x.1).filter (·.sec))) 5 x.2.2) (fun x => xs.length - x.1) (0, .slice none 0 0, []) (.cons rfl (.cons rfl .nil)) (.cons z_C (.cons z_C (.cons z_C .nil))) z_A (⟨rfl, Nat.zero_le _, SlG.nil⟩) ?_
  rintro ⟨i, sw, Lw⟩ e_ L ⟨rfl, hi, hsw⟩
  simp only at hi hsw
  dsimp only
  have hwl := List.length_filter_le (·.sec) (xs.take i)
  rw [List.length_take] at hwl
  refine T.seq ?_
  refine T.region ?_
  refine TL.cons rfl (T1.ltI_split rfl rfl (fun h10 => ?_) (fun h10 => ?_))
  ·
    obtain ⟨x, hx0⟩ : ∃ x, xs[i]? = some x := ⟨_, List.getElem?_eq_getElem (by omega)⟩
    obtain ⟨⟨who, ep, nms, num⟩, sec, a2, c2⟩ := x
    obtain ⟨bu_, ou_, rfl, hrdu⟩ := hru.at (by omega) P
    refine TL.nil ?_
    refine T.seq ?_
    refine T.cond_t rfl ?_
    refine T.skip ?_
    refine T.seq ?_
    refine T.block ?_
    refine T.seq ?_
    refine T.region ?_
    refine TL.cons rfl (V1.t (V1.indexAddrS ty_49 sz_57 rfl rfl (by omega) (by omega)) ?_)
    refine TL.cons rfl (V1.t (V1.loadN (vs := [iV who, iV ep, .slice a2 nms.length c2, .string (bstr (nmb sText [num])), .bool sec]) one_57 sz_57 rfl (show RdN _ _ _ (TdX.cells ⟨⟨who, ep, nms, num⟩, sec, a2, c2⟩) from tdX_rd hx0 (hrdu _ rfl rfl _ z_B)) rfl) ?_)
    refine TL.cons rfl (T1.allocN 5 zr_57 rfl (fun b13 => ?_))
    refine TL.cons rfl (T1.storeN rfl rfl sz_57 (ones rfl) z_G (by rfl) (by rfl) ?_)
    refine TL.nil ?_
    refine T.seq ?_
    refine T.region ?_
    refine TL.cons rfl (V1.t (V1.fieldAddr fl_57_4 rfl) ?_)
    refine TL.cons rfl (V1.t (V1.load1 (v := .bool sec) one_4 rfl (.own z_D (by rfl))) ?_)
    cases sec
    ·
      refine TL.nil ?_
      refine T.cond_f rfl ?_
      refine T.skip ?_
      refine T.region ?_
      refine TL.cons rfl (V1.t (V1.add (c := ((i + 1 : Nat) : Int)) rfl rfl (by rw [wrap_i64 _ (by omega) (by omega)]; omega)) ?_)
      refine TL.cons rfl (V1.t (V1.move' z_C) ?_)
      refine TL.nil ?_
      exact ⟨(i + 1, sw, Lw), Lw ++ (Ut ++ (Uk ++ (Ub ++ (U ++ (L1 ++ (L2 ++ (Lt ++ (Q ++ G)))))))), _, (by simp only; omega), (.cons rfl (.cons rfl .nil)), (.cons rfl (.cons rfl (.cons rfl .nil))), z_A, ⟨rfl, by simp only; omega, by simp only; rw [filt_f hx0 rfl]; exact hsw⟩⟩
    ·
      refine TL.nil ?_
      refine T.cond_t rfl ?_
      refine T.region ?_
      refine TL.cons rfl (V1.t (V1.move' z_C) ?_)
      refine TL.cons rfl (V1.t (V1.loadN (vs := [iV who, iV ep, .slice a2 nms.length c2, .string (bstr (nmb sText [num])), .bool true]) one_57 sz_57 rfl (RdN.whole z_D) rfl) ?_)
      refine TL.cons rfl (T1.buildOne (cs := [iV who, iV ep, .slice a2 nms.length c2, .string (bstr (nmb sText [num])), .bool true]) ty_49 sz_57 zr_57 (by decide) rfl (by rfl) (fun b48 => ?_))
      refine TL.cons rfl (T1.appendG ty_49 kd_49 sz_57 by_57 zr_57 rfl (by decide) (by decide) rfl rfl (.inr rfl) hsw (.sl (vs := [iV who, iV ep, .slice a2 nms.length c2, .string (bstr (nmb sText [num])), .bool true]) (RdN.at0 z_D) (by rfl)) (ones rfl) 2000 (by rw [tdX_len]; show _ + 5 ≤ _; omega) (by decide) z_E (fun sw2 Lw2 hsw2 => ?_))
      refine TL.cons rfl (V1.t (V1.assign' z_C) ?_)
      refine TL.nil ?_
      refine T.region ?_
      refine TL.cons rfl (V1.t (V1.add (c := ((i + 1 : Nat) : Int)) rfl rfl (by rw [wrap_i64 _ (by omega) (by omega)]; omega)) ?_)
      refine TL.cons rfl (V1.t (V1.move' z_C) ?_)
      refine TL.nil ?_
      exact ⟨(i + 1, sw2, Lw2), Lw2 ++ (Ut ++ (Uk ++ (Ub ++ (U ++ (L1 ++ (L2 ++ (Lt ++ (Q ++ G)))))))), _, (by simp only; omega), (.cons rfl (.cons rfl .nil)), (.cons rfl (.cons rfl (.cons rfl .nil))), z_A, ⟨rfl, by simp only; omega, by simp only; rw [filt_t hx0 rfl, tdX_app]; exact hsw2⟩⟩
  ·
    obtain rfl : i = xs.length := by omega
    rw [List.take_length] at hsw
    have hrw := RowR.ofSl (w0 := w0) hsw Inc.refl (by decide) (xs.filter (·.sec)).length (tdX_len _)
    obtain ⟨aw_, cw_, rfl⟩ := hrw.form
    refine TL.nil ?_
    refine T.seq ?_
    refine T.cond_f rfl ?_
    refine T.exit ?_
    refine T.seq ?_
    refine T.seq ?_
    refine T.region ?_
    refine TL.cons rfl (V1.t (V1.move' z_C) ?_)
    refine TL.cons rfl (V1.t (V1.lenSl ty_43 rfl) ?_)
    refine TL.cons rfl (V1.t (V1.move' z_C) ?_)
    refine TL.cons rfl (V1.t (V1.lenSl ty_49 rfl) ?_)
    refine TL.cons rfl (V1.t (V1.neI (r := false) rfl rfl (decide_eq_false (fun h => h (by rw [hlt, hfl])))) ?_)
    refine TL.nil ?_
    refine T.cond_f rfl ?_
    refine T.skip ?_
    refine T.seq ?_
    refine T.seq ?_
    refine T.region ?_
    refine TL.cons rfl (V1.t (V1.move' z_C) ?_)
    refine TL.cons rfl (V1.t (V1.lenSl ty_43 rfl) ?_)
    refine TL.cons rfl (V1.t (V1.move' z_C) ?_)
    refine TL.nil ?_
    refine T.block ?_
    refine T.loopL (σ := Nat) (l0 := [(3, _), (11, _), (57, _)]) (fun x => [(58, .int .i64 (x : Nat))]) (fun i L => L = Lw ++ (Ut ++ (Uk ++ (Ub ++ (U ++ (L1 ++ (L2 ++ (Lt ++ (Q ++ G)))))))) ∧ i ≤ ts.length) (fun i => ts.length - i) 0 (.cons rfl .nil) (.cons z_C (.cons z_C (.cons z_C .nil))) z_A (⟨rfl, Nat.zero_le _⟩) ?_
    rintro i e_ L ⟨rfl, hi⟩
    refine T.seq ?_
    refine T.region ?_
    refine TL.cons rfl (T1.ltI_split rfl rfl (fun h18 => ?_) (fun h18 => ?_))
    ·
      obtain ⟨x, hx0⟩ : ∃ x, ts[i]? = some x := ⟨_, List.getElem?_eq_getElem (by omega)⟩
      obtain ⟨y, hy0⟩ : ∃ y, (xs.filter (·.sec))[i]? = some y := ⟨_, List.getElem?_eq_getElem (by omega)⟩
      have hx := hA x (List.mem_of_getElem? hx0)
      have hy := hxA y (List.mem_filter.1 (List.mem_of_getElem? hy0)).1
      have hx1 : (secL es)[i]? = some x.1 := by rw [← hts, List.getElem?_map, hx0]; rfl
      have hxy : y.t = x.1 := by rw [← hfm, List.getElem?_map, hy0] at hx1; exact Option.some.inj hx1
      obtain ⟨j_, hj_⟩ := List.getElem?_of_mem (List.mem_filter.1 (List.mem_of_getElem? hx1)).1
      obtain ⟨hn26, hn6⟩ := out_told hj_
      obtain ⟨⟨who, ep, nms, num⟩, cs⟩ := x
      obtain ⟨ty, sec, a2, c2⟩ := y
      dsimp only at hxy hx hy hn26 hn6
      subst hxy
      obtain ⟨a1, c1, rfl, hrn⟩ := hx
      obtain ⟨b_, o_, rfl, hrd⟩ := hrt.at (by omega) P
      obtain ⟨bw_, ow_, rfl, hrdw⟩ := hrw.at (by omega) P
      refine TL.nil ?_
      refine T.seq ?_
      refine T.cond_t rfl ?_
      refine T.skip ?_
      refine T.seq ?_
      refine T.block ?_
      refine T.seq ?_
      refine T.region ?_
      refine TL.cons rfl (V1.t (V1.move' z_C) ?_)
      refine TL.cons rfl (V1.t (V1.assign' z_C) ?_)
      refine TL.nil ?_
      refine T.seq ?_
      refine T.drawDet' mixed (by decide +kernel) ?_
      refine Det.cons 0 (ins := [(3, _)]) (.old z_C (by decide +kernel) .nil) (fun e_ => .inl ⟨rfl, V1.t (V1.move' z_C) ⟨rfl, rfl⟩⟩) ?_
      refine Det.cons 1 (ins := [(14, _)]) (.old z_C (by decide +kernel) .nil) (fun e_ => .inl ⟨rfl, V1.t (V1.move' z_C) ⟨rfl, rfl⟩⟩) ?_
      refine Det.cons 2 (ins := [(61, _), (62, _)]) (.new 0 1 (by decide +kernel) rfl rfl (.new 1 0 (by decide +kernel) rfl rfl .nil)) (fun e_ => .inl ⟨rfl, V1.t (V1.indexAddrS ty_43 sz_55 rfl rfl (by omega) (by omega)) ⟨rfl, rfl⟩⟩) ?_
      refine Det.cons 3 (ins := [(63, _)]) (.new 2 0 (by decide +kernel) rfl rfl .nil) (fun e_ => .inl ⟨rfl, V1.t (V1.loadN (vs := [iV who, iV ep, .slice a1 nms.length c1, .int .i64 1, .string (bstr (nmb sText [num])), .slice none 0 0]) one_55 sz_55 rfl (tdC_rd hA hx0 rfl (hrd _ rfl rfl _ z_B)) rfl) ⟨rfl, rfl⟩⟩) ?_
      refine Det.cons 4 (ins := [(11, _)]) (.old z_C (by decide +kernel) .nil) (fun e_ => .inl ⟨rfl, V1.t (V1.move' z_C) ⟨rfl, rfl⟩⟩) ?_
      refine Det.cons 5 (ins := [(14, _)]) (.old z_C (by decide +kernel) .nil) (fun e_ => .inl ⟨rfl, V1.t (V1.move' z_C) ⟨rfl, rfl⟩⟩) ?_
      refine Det.cons 6 (ins := [(65, _), (66, _)]) (.new 4 1 (by decide +kernel) rfl rfl (.new 5 0 (by decide +kernel) rfl rfl .nil)) (fun e_ => .inl ⟨rfl, V1.t (V1.indexAddrS ty_49 sz_57 rfl rfl (by omega) (by omega)) ⟨rfl, rfl⟩⟩) ?_
      refine Det.cons 7 (ins := [(67, _)]) (.new 6 0 (by decide +kernel) rfl rfl .nil) (fun e_ => .inl ⟨rfl, V1.t (V1.loadN (vs := [iV who, iV ep, .slice a2 nms.length c2, .string (bstr (nmb sText [num])), .bool sec]) one_57 sz_57 rfl (show RdN _ _ _ (TdX.cells ⟨⟨who, ep, nms, num⟩, sec, a2, c2⟩) from tdX_rd hy0 (hrdw _ rfl rfl _ z_B)) rfl) ⟨rfl, rfl⟩⟩) ?_
      refine Det.cons 8 (ins := [(64, _), (68, _)]) (v := .bool true) (.new 3 4 (by decide +kernel) rfl rfl (.new 7 0 (by decide +kernel) rfl rfl .nil)) (fun e_ => .inl ⟨rfl, ?_⟩) ?_
      · refine T1.callV has_25 rfl rfl (same_us w0 (U ++ (Q ++ Ps)) (who := who) (epoch := ep) (num := num) (names := nms) (sec := sec) (a1 := a1) (a2 := a2) (c1 := c1) (c2 := c2) (hrn.more (Inc.skip Inc.refl)) (hy.more Inc.here) hn26 (by omega)) z_B (fun v_ hv => ?_)
        obtain rfl := hv
        exact ⟨rfl, rfl⟩
      refine Det.cons 9 (ins := [(69, _)]) (.new 8 0 (by decide +kernel) rfl rfl .nil) (fun e_ => .inl ⟨rfl, V1.t (V1.not rfl rfl) ⟨rfl, rfl⟩⟩) ?_
      refine Det.nil 10 (l := [(3, _), (11, _), (57, _), (58, _), (70, _)]) (.old z_C (by decide +kernel) (.old z_C (by decide +kernel) (.old z_C (by decide +kernel) (.old z_C (by decide +kernel) (.new 9 0 (by decide +kernel) rfl rfl .nil))))) (fun e_ => ?_)
      refine T.cond_f rfl ?_
      refine T.skip ?_
      refine T.region ?_
      refine TL.cons rfl (V1.t (V1.add (c := ((i + 1 : Nat) : Int)) rfl rfl (by rw [wrap_i64 _ (by omega) (by omega)]; omega)) ?_)
      refine TL.cons rfl (V1.t (V1.move' z_C) ?_)
      refine TL.nil ?_
      exact ⟨i + 1, Lw ++ (Ut ++ (Uk ++ (Ub ++ (U ++ (L1 ++ (L2 ++ (Lt ++ (Q ++ G)))))))), _, (by simp only; omega), (.cons rfl .nil), (.cons rfl (.cons rfl (.cons rfl .nil))), z_A, ⟨rfl, by omega⟩⟩
    ·
      refine TL.nil ?_
      refine T.seq ?_
      refine T.cond_f rfl ?_
      refine T.exit ?_
      refine T.seq ?_
      refine T.region ?_
      refine TL.cons rfl (V1.t (V1.assign' z_C) ?_)
      refine TL.nil ?_
      refine T.ret ?_
      exact ⟨_, G, _, .cons (.tmp z_C) .nil, z_A, rfl, rfl⟩

end Go.Proofs.YtlpkcbkflfbclaaGreatDoor.S
