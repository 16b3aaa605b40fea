/- A term is read again from its text; two have the same text just if they are the same. -/
import Derived.Test.YtlpkcbkflfbclaaDoorP4
import Derived.Test.YtlpkcbkflfbclaaDoorTmMem
namespace Go.Proofs.YtlpkcbkflfbclaaDoor.S
open Go.RowKit

theorem tmTy : TmTy P 26 23 3 9 := ⟨by kernel_rfl, ty_23, by kernel_rfl, by kernel_rfl, by kernel_rfl, by kernel_rfl, by kernel_rfl, by kernel_rfl, by rw [show P.bytesOf 26 = 48 from by kernel_rfl]; decide⟩
theorem ce_ts : P.cellTypes P.depth 26 = some [3, 9, 23] := by kernel_rfl
/-! ### A text has one term alone -/
theorem dropW {nm m : List UInt8} (h : ∀ x ∈ nm, low x = true) : (nm ++ m).dropWhile low = m.dropWhile low := by
  induction nm with
  | nil => rfl
  | cons a l ih => rw [List.cons_append, List.dropWhile_cons, if_pos (h a (by simp))]; exact ih fun x hx => h x (by simp [hx])
theorem cons_40 (r : List UInt8) : (40 :: r).dropWhile low = 40 :: r := by rw [List.dropWhile_cons, if_neg (by decide)]
theorem jr_inj {l l' : List Tm} {m m' : List UInt8} (ih : ∀ x ∈ l, ∀ (b : Tm) (n n' : List UInt8), shp x = true → shp b = true → okM n → okM n' → txt x ++ n = txt b ++ n' → x = b ∧ n = n')
    (h1 : ∀ x ∈ l, shp x = true) (h2 : ∀ x ∈ l', shp x = true) (he : jr l ++ 41 :: m = jr l' ++ 41 :: m') : l = l' ∧ m = m' := by
  induction l generalizing l' with
  | nil =>
    cases l' with
    | nil => exact ⟨rfl, by simpa [jr] using he⟩
    | cons b l' => simp [jr] at he
  | cons a l ihl =>
    cases l' with
    | nil => simp [jr] at he
    | cons b l' =>
      have hc : ∀ (x : Tm) (k : List Tm), jr (x :: k) = 44 :: (txt x ++ jr k) := fun x k => by unfold jr; rw [List.flatMap_cons]; rfl
      rw [hc, hc, List.cons_append, List.cons_append, List.cons.injEq] at he
      have he2 := he.2
      rw [List.append_assoc, List.append_assoc] at he2
      obtain ⟨h3, h4⟩ := ih a (by simp) b _ _ (h1 a (by simp)) (h2 b (by simp)) (jr_ok _ _) (jr_ok _ _) he2
      obtain ⟨h5, h6⟩ := ihl (fun x hx => ih x (by simp [hx])) (fun x hx => h1 x (by simp [hx])) (fun x hx => h2 x (by simp [hx])) h4
      exact ⟨by rw [h3, h5], h6⟩
theorem args_inj {ts ts' : List Tm} {m m' : List UInt8} (ih : ∀ x ∈ ts, ∀ (b : Tm) (n n' : List UInt8), shp x = true → shp b = true → okM n → okM n' → txt x ++ n = txt b ++ n' → x = b ∧ n = n')
    (h0 : 0 < ts.length) (h0' : 0 < ts'.length) (h1 : ∀ x ∈ ts, shp x = true) (h2 : ∀ x ∈ ts', shp x = true) (he : (joinC (txtM ts) ++ [41]) ++ m = (joinC (txtM ts') ++ [41]) ++ m') : ts = ts' ∧ m = m' := by
  cases ts with
  | nil => simp at h0
  | cons a l =>
    cases ts' with
    | nil => simp at h0'
    | cons b l' =>
      rw [join_jr, join_jr, List.append_assoc, List.append_assoc, List.append_assoc, List.append_assoc] at he
      obtain ⟨h3, h4⟩ := ih a (by simp) b _ _ (h1 a (by simp)) (h2 b (by simp)) (jr_ok _ _) (jr_ok _ _) he
      obtain ⟨h5, h6⟩ := jr_inj (fun x hx => ih x (by simp [hx])) (fun x hx => h1 x (by simp [hx])) (fun x hx => h2 x (by simp [hx])) h4
      exact ⟨by rw [h3, h5], h6⟩
theorem okM_40 {m r : List UInt8} (h : okM m) (e : m = 40 :: r) : False := by
  rcases h with rfl | ⟨c, r', rfl, _, hc⟩
  · cases e
  · exact hc (List.cons.inj e).1
theorem txt_inj (a : Tm) : ∀ (b : Tm) (m m' : List UInt8), shp a = true → shp b = true → okM m → okM m' → txt a ++ m = txt b ++ m' → a = b ∧ m = m' := by
  induction a using Tm.ind with
  | h k nm ts ih =>
    intro b m m' ha hb hm hm' he
    obtain ⟨k', nm', ts'⟩ := b
    obtain ⟨ha1, ha2⟩ := shp_mk.1 ha
    obtain ⟨hb1, hb2⟩ := shp_mk.1 hb
    rcases txt_shape ha1 with ⟨rfl, rfl, hn, ht⟩ | ⟨rfl, h0, hn, ht⟩ | ⟨hK, h0, rfl, ht⟩
    · rcases txt_shape hb1 with ⟨rfl, rfl, hn', ht'⟩ | ⟨rfl, h0', hn', ht'⟩ | ⟨hK', h0', rfl, ht'⟩
      · rw [ht, ht'] at he
        have h1 := congrArg (List.dropWhile low) he
        rw [dropW (named_all hn), dropW (named_all hn'), hm.drop, hm'.drop] at h1
        subst h1
        rw [List.append_cancel_right he]; exact ⟨rfl, rfl⟩
      · exfalso
        rw [ht, ht'] at he
        have h1 := congrArg (List.dropWhile low) he
        rw [dropW (named_all hn), hm.drop, show (104 :: (nm' ++ 40 :: (joinC (txtM ts') ++ [41]))) ++ m' = (104 :: nm') ++ (40 :: ((joinC (txtM ts') ++ [41]) ++ m')) by simp, dropW (by intro y hy; rcases List.mem_cons.1 hy with rfl | hy; decide; exact named_all hn' y hy), cons_40] at h1
        exact okM_40 hm h1
      · exfalso
        rw [ht, ht'] at he
        obtain ⟨c, l, rfl, hc⟩ := named_cons hn
        simp only [List.cons_append, List.cons.injEq] at he
        cases l with
        | nil => exact okM_40 hm he.2
        | cons d l => exact low_40 (named_all hn d (by simp)) (List.cons.inj he.2).1
    · rcases txt_shape hb1 with ⟨rfl, rfl, hn', ht'⟩ | ⟨rfl, h0', hn', ht'⟩ | ⟨hK', h0', rfl, ht'⟩
      · exfalso
        rw [ht, ht'] at he
        have h1 := congrArg (List.dropWhile low) he
        rw [dropW (named_all hn'), hm'.drop, show (104 :: (nm ++ 40 :: (joinC (txtM ts) ++ [41]))) ++ m = (104 :: nm) ++ (40 :: ((joinC (txtM ts) ++ [41]) ++ m)) by simp, dropW (by intro y hy; rcases List.mem_cons.1 hy with rfl | hy; decide; exact named_all hn y hy), cons_40] at h1
        exact okM_40 hm' h1.symm
      · rw [ht, ht'] at he
        simp only [List.cons_append, List.cons.injEq, true_and] at he
        rw [List.append_assoc, List.append_assoc] at he
        have h1 := congrArg (List.dropWhile low) he
        rw [dropW (named_all hn), dropW (named_all hn')] at h1
        have e1 : ∀ (x y : List UInt8), (40 :: x) ++ y = 40 :: (x ++ y) := fun _ _ => rfl
        rw [e1, e1, cons_40, cons_40] at h1
        rw [e1, e1, ← h1] at he
        have hnm := List.append_cancel_right he
        obtain ⟨h3, h4⟩ := args_inj (fun x hx => ih x hx) h0 h0' ha2 hb2 (List.cons.inj h1).2
        rw [hnm, h3]; exact ⟨rfl, h4⟩
      · exfalso
        rw [ht, ht'] at he
        obtain ⟨c, l, rfl, hc⟩ := named_cons hn
        simp only [List.cons_append, List.cons.injEq] at he
        exact low_40 hc he.2.1
    · rcases txt_shape hb1 with ⟨rfl, rfl, hn', ht'⟩ | ⟨rfl, h0', hn', ht'⟩ | ⟨hK', h0', rfl, ht'⟩
      · exfalso
        rw [ht, ht'] at he
        obtain ⟨c, l, rfl, hc⟩ := named_cons hn'
        simp only [List.cons_append, List.cons.injEq] at he
        cases l with
        | nil => exact okM_40 hm' he.2.symm
        | cons d l => exact low_40 (named_all hn' d (by simp)) (List.cons.inj he.2).1.symm
      · exfalso
        rw [ht, ht'] at he
        obtain ⟨c, l, rfl, hc⟩ := named_cons hn'
        simp only [List.cons_append, List.cons.injEq] at he
        exact low_40 hc he.2.1.symm
      · rw [ht, ht'] at he
        simp only [List.cons_append, List.cons.injEq, true_and] at he
        have hk := sg_inj k.toNat (by omega) k'.toNat (by omega) (by omega) (by omega) he.1
        obtain rfl : k = k' := by omega
        obtain ⟨h3, h4⟩ := args_inj (fun x hx => ih x hx) h0 h0' ha2 hb2 he.2
        rw [h3]; exact ⟨rfl, h4⟩
theorem tb_law {a b : Tm} (ha : shp a = true) (hb : shp b = true) : (decide (bstr (txt a) = bstr (txt b)) == decide (cmpT a b = 0)) = true := by
  rw [beq_iff_eq]
  refine decide_eq_decide.2 ⟨fun h => ?_, fun h => by rw [cmpT_eq.1 h]⟩
  have h1 := bstr_inj h
  exact cmpT_eq.2 (txt_inj a b [] [] ha hb (.inl rfl) (.inl rfl) (by rw [h1])).1

set_option maxRecDepth 100000 in
set_option maxHeartbeats 8000000 in
theorem TermBack_us (w0 : World) {k k2 : Int} {nm nm2 : List UInt8} {ts ts2 : List Tm} (ca cb : List Value) (hxa : TmR w0 [] (.mk k nm ts) ca) (hxb : TmR w0 [] (.mk k2 nm2 ts2) cb) : FnV P 4 [.agg ca.toArray, .agg cb.toArray] w0 [] (fun v => v = .bool true) := by
  obtain ⟨a, c, vs, rfl, _, _, _⟩ := hxa.inv
  obtain ⟨a2, c2, vs2, rfl, _, _, _⟩ := hxb.inv
  refine FnV.of 43 [.tmp 4] Go.Proofs.Tryd.func4 rfl rfl rfl rfl (fun G hG => ?_)
  refine T.seq ?_
  refine T.region ?_
  refine TL.cons rfl (T1.boxN 3 rfl rfl (fun b2 => ?_))
  refine TL.cons rfl (T1.boxN 3 rfl rfl (fun b3 => ?_))
  refine TL.cons rfl (V1.t (V1.assign' z_D) ?_)
  refine TL.nil ?_
  refine T.seq ?_
  refine T.seq ?_
  refine T.region ?_
  refine TL.cons rfl (T1.callV has_21 rfl rfl (reads_any w0) z_E (fun v_ hv => ?_))
  obtain rfl := hv
  refine TL.cons rfl (V1.t (V1.not rfl rfl) ?_)
  refine TL.nil ?_
  refine T.cond_f rfl ?_
  refine T.skip ?_
  refine T.seq ?_
  refine T.seq ?_
  refine T.region ?_
  refine TL.cons rfl (V1.t (V1.loadN (vs := [.int .i64 k, .string (bstr nm), .slice a ts.length c]) one_26 sz_26 rfl (RdN.whole (cells := [.int .i64 k, .string (bstr nm), .slice a ts.length c]) z_B) rfl) ?_)
  refine TL.cons rfl (T1.callV has_17 rfl rfl (Check_any w0 [] (.mk k nm ts) _ hxa) z_E (fun v_ hv => ?_))
  obtain rfl := hv
  refine TL.cons rfl (T1.neI_split rfl rfl (fun h3 => ?_) (fun h3 => ?_))
  ·
    refine TL.cons rfl (V1.t (V1.move' z_D) ?_)
    refine TL.no rfl ?_
    refine TL.no rfl ?_
    refine TL.no rfl ?_
    refine TL.cons rfl (V1.t (V1.pick rfl z_D) ?_)
    refine TL.nil ?_
    refine T.cond_t rfl ?_
    refine T.seq ?_
    refine T.region ?_
    refine TL.cons rfl (V1.t (V1.assign' z_D) ?_)
    refine TL.nil ?_
    refine T.ret ?_
    exact ⟨_, G, _, .cons (.tmp z_D) .nil, z_A, rfl, rfl⟩
  ·
    have hca : chk (.mk k nm ts) = 0 := by omega
    obtain ⟨ha1, ha2, ha3⟩ := chk_iff.1 hca
    refine TL.cons rfl (V1.t (V1.move' z_D) ?_)
    refine TL.cons rfl (V1.t (V1.loadN (vs := [.int .i64 k2, .string (bstr nm2), .slice a2 ts2.length c2]) one_26 sz_26 rfl (RdN.whole (cells := [.int .i64 k2, .string (bstr nm2), .slice a2 ts2.length c2]) z_B) rfl) ?_)
    refine TL.cons rfl (T1.callV has_17 rfl rfl (Check_any w0 [] (.mk k2 nm2 ts2) _ hxb) z_E (fun v_ hv => ?_))
    obtain rfl := hv
    refine TL.cons rfl (T1.neI_split rfl rfl (fun h36 => ?_) (fun h36 => ?_))
    ·
      refine TL.cons rfl (V1.t (V1.pick rfl z_D) ?_)
      refine TL.nil ?_
      refine T.cond_t rfl ?_
      refine T.seq ?_
      refine T.region ?_
      refine TL.cons rfl (V1.t (V1.assign' z_D) ?_)
      refine TL.nil ?_
      refine T.ret ?_
      exact ⟨_, G, _, .cons (.tmp z_D) .nil, z_A, rfl, rfl⟩
    ·
      have hcb : chk (.mk k2 nm2 ts2) = 0 := by omega
      obtain ⟨hb1, hb2, hb3⟩ := chk_iff.1 hcb
      refine TL.cons rfl (V1.t (V1.pick rfl z_D) ?_)
      refine TL.nil ?_
      refine T.cond_f rfl ?_
      refine T.skip ?_
      refine T.seq ?_
      refine T.region ?_
      refine TL.cons rfl (V1.t (V1.loadN (vs := [.int .i64 k, .string (bstr nm), .slice a ts.length c]) one_26 sz_26 rfl (RdN.whole (cells := [.int .i64 k, .string (bstr nm), .slice a ts.length c]) z_B) rfl) ?_)
      refine TL.cons rfl (T1.callV has_23 rfl rfl (TString_any w0 [] (.mk k nm ts) hxa ha3 (by omega)) z_E (fun v_ hv => ?_))
      obtain rfl := hv
      refine TL.cons rfl (T1.callC has_22 rfl rfl (Parse_any w0 (.mk k nm ts) hca) z_E (fun v_ Yq hY => ?_))
      obtain ⟨cs_, rfl, hq⟩ := hY
      obtain ⟨aq, cq, vsq, rfl, _, _, _⟩ := hq.inv
      refine TL.cons rfl (V1.t (V1.move' z_D) ?_)
      refine TL.cons rfl (V1.t (V1.extract rfl (by rfl)) ?_)
      refine TL.cons rfl (V1.t (V1.extract rfl (by rfl)) ?_)
      refine TL.cons rfl (T1.allocN 3 zr_26 rfl (fun b5 => ?_))
      refine TL.cons rfl (T1.storeN (vs := [.int .i64 k, .string (bstr nm), .slice aq ts.length cq]) rfl rfl sz_26 (ones rfl) z_G (by rfl) (by rfl) ?_)
      refine TL.cons rfl (V1.t (V1.assign' z_D) ?_)
      refine TL.nil ?_
      refine T.seq ?_
      refine T.live (l := [(2, _), (3, _), (5, _), (6, _)]) (.cons z_D (.cons z_D (.cons z_D (.cons z_D .nil)))) (fun e_ => ?_)
      refine T.drawDet' mixed (by decide +kernel) ?_
      refine Det.cons 0 (ins := [(6, _)]) (.old z_D (by decide +kernel) .nil) (fun e_ => .inl ⟨rfl, V1.t (V1.move' z_D) ⟨rfl, rfl⟩⟩) ?_
      refine Det.cons 1 (ins := [(23, _)]) (.new 0 0 (by decide +kernel) rfl rfl .nil) (fun e_ => .inl ⟨rfl, V1.t (V1.eqI (r := true) rfl rfl (by decide)) ⟨rfl, rfl⟩⟩) ?_
      refine Det.cons 2 (ins := [(24, _)]) (.new 1 0 (by decide +kernel) rfl rfl .nil) (fun e_ => .inl ⟨rfl, V1.t (V1.move' z_D) ⟨rfl, rfl⟩⟩) ?_
      refine Det.cons 3 (ins := [(5, _), (25, _)]) (.old z_D (by decide +kernel) (.new 2 0 (by decide +kernel) rfl rfl .nil)) (fun e_ => .inl ⟨rfl, V1.t (V1.loadN (vs := [.int .i64 k, .string (bstr nm), .slice aq ts.length cq]) one_26 sz_26 rfl (RdN.whole (cells := [.int .i64 k, .string (bstr nm), .slice aq ts.length cq]) z_B) rfl) ⟨rfl, rfl⟩⟩) ?_
      refine Det.cons 4 (ins := [(2, _), (25, _)]) (.old z_D (by decide +kernel) (.new 2 1 (by decide +kernel) rfl rfl .nil)) (fun e_ => .inl ⟨rfl, V1.t (V1.loadN (vs := [.int .i64 k, .string (bstr nm), .slice a ts.length c]) one_26 sz_26 rfl (RdN.whole (cells := [.int .i64 k, .string (bstr nm), .slice a ts.length c]) z_B) rfl) ⟨rfl, rfl⟩⟩) ?_
      refine Det.cons 5 (ins := [(25, _), (26, _), (27, _)]) (v := .int .i64 0) (.new 2 2 (by decide +kernel) rfl rfl (.new 3 1 (by decide +kernel) rfl rfl (.new 4 0 (by decide +kernel) rfl rfl .nil))) (fun e_ => .inl ⟨rfl, ?_⟩) ?_
      · refine T1.callV has_15 rfl rfl (Compare_any w0 (.mk k nm ts) (.mk k nm ts) (Yq ++ []) _ _ (hq.more Inc.here) (hxa.more Inc.nil)) z_E (fun v_ hv => ?_)
        obtain rfl := hv
        rw [cmpT_self]
        exact ⟨rfl, rfl⟩
      refine Det.cons 6 (ins := [(25, _), (28, _)]) (.new 2 3 (by decide +kernel) rfl rfl (.new 5 0 (by decide +kernel) rfl rfl .nil)) (fun e_ => .inl ⟨rfl, V1.t (V1.eqI (r := true) rfl rfl (by decide)) ⟨rfl, rfl⟩⟩) ?_
      refine Det.cons 7 (ins := [(25, _), (29, _)]) (.new 2 4 (by decide +kernel) rfl rfl (.new 6 0 (by decide +kernel) rfl rfl .nil)) (fun e_ => .inl ⟨rfl, V1.t (V1.pick rfl z_D) ⟨rfl, rfl⟩⟩) ?_
      refine Det.cons 8 (ins := [(30, _)]) (.new 7 0 (by decide +kernel) rfl rfl .nil) (fun e_ => .inl ⟨rfl, V1.t (V1.move' z_D) ⟨rfl, rfl⟩⟩) ?_
      refine Det.cons 9 (ins := [(2, _), (31, _)]) (.old z_D (by decide +kernel) (.new 8 0 (by decide +kernel) rfl rfl .nil)) (fun e_ => .inl ⟨rfl, V1.t (V1.loadN (vs := [.int .i64 k, .string (bstr nm), .slice a ts.length c]) one_26 sz_26 rfl (RdN.whole (cells := [.int .i64 k, .string (bstr nm), .slice a ts.length c]) z_B) rfl) ⟨rfl, rfl⟩⟩) ?_
      refine Det.cons 10 (ins := [(31, _), (32, _)]) (v := .string (bstr (txt (.mk k nm ts)))) (.new 8 1 (by decide +kernel) rfl rfl (.new 9 0 (by decide +kernel) rfl rfl .nil)) (fun e_ => .inl ⟨rfl, ?_⟩) ?_
      · refine T1.callV has_23 rfl rfl (TString_any w0 [] (.mk k nm ts) hxa ha3 (by omega)) z_E (fun v_ hv => ?_)
        obtain rfl := hv
        exact ⟨rfl, rfl⟩
      refine Det.cons 11 (ins := [(3, _), (31, _)]) (.old z_D (by decide +kernel) (.new 8 2 (by decide +kernel) rfl rfl .nil)) (fun e_ => .inl ⟨rfl, V1.t (V1.loadN (vs := [.int .i64 k2, .string (bstr nm2), .slice a2 ts2.length c2]) one_26 sz_26 rfl (RdN.whole (cells := [.int .i64 k2, .string (bstr nm2), .slice a2 ts2.length c2]) z_B) rfl) ⟨rfl, rfl⟩⟩) ?_
      refine Det.cons 12 (ins := [(31, _), (34, _)]) (v := .string (bstr (txt (.mk k2 nm2 ts2)))) (.new 8 3 (by decide +kernel) rfl rfl (.new 11 0 (by decide +kernel) rfl rfl .nil)) (fun e_ => .inl ⟨rfl, ?_⟩) ?_
      · refine T1.callV has_23 rfl rfl (TString_any w0 [] (.mk k2 nm2 ts2) hxb hb3 (by omega)) z_E (fun v_ hv => ?_)
        obtain rfl := hv
        exact ⟨rfl, rfl⟩
      refine Det.cons 13 (ins := [(31, _), (33, _), (35, _)]) (.new 8 4 (by decide +kernel) rfl rfl (.new 10 2 (by decide +kernel) rfl rfl (.new 12 0 (by decide +kernel) rfl rfl .nil))) (fun e_ => .inl ⟨rfl, V1.t (V1.eqS rfl rfl rfl) ⟨rfl, rfl⟩⟩) ?_
      refine Det.cons 14 (ins := [(2, _), (31, _)]) (.old z_D (by decide +kernel) (.new 8 5 (by decide +kernel) rfl rfl .nil)) (fun e_ => .inl ⟨rfl, V1.t (V1.loadN (vs := [.int .i64 k, .string (bstr nm), .slice a ts.length c]) one_26 sz_26 rfl (RdN.whole (cells := [.int .i64 k, .string (bstr nm), .slice a ts.length c]) z_B) rfl) ⟨rfl, rfl⟩⟩) ?_
      refine Det.cons 15 (ins := [(3, _), (31, _)]) (.old z_D (by decide +kernel) (.new 8 6 (by decide +kernel) rfl rfl .nil)) (fun e_ => .inl ⟨rfl, V1.t (V1.loadN (vs := [.int .i64 k2, .string (bstr nm2), .slice a2 ts2.length c2]) one_26 sz_26 rfl (RdN.whole (cells := [.int .i64 k2, .string (bstr nm2), .slice a2 ts2.length c2]) z_B) rfl) ⟨rfl, rfl⟩⟩) ?_
      refine Det.cons 16 (ins := [(31, _), (37, _), (38, _)]) (v := .int .i64 (cmpT (.mk k nm ts) (.mk k2 nm2 ts2))) (.new 8 7 (by decide +kernel) rfl rfl (.new 14 1 (by decide +kernel) rfl rfl (.new 15 0 (by decide +kernel) rfl rfl .nil))) (fun e_ => .inl ⟨rfl, ?_⟩) ?_
      · refine T1.callV has_15 rfl rfl (Compare_any w0 (.mk k nm ts) (.mk k2 nm2 ts2) [] _ _ hxa hxb) z_E (fun v_ hv => ?_)
        obtain rfl := hv
        exact ⟨rfl, rfl⟩
      refine Det.cons 17 (ins := [(31, _), (39, _)]) (.new 8 8 (by decide +kernel) rfl rfl (.new 16 0 (by decide +kernel) rfl rfl .nil)) (fun e_ => .inl ⟨rfl, V1.t (V1.eqI rfl rfl rfl) ⟨rfl, rfl⟩⟩) ?_
      refine Det.cons 18 (ins := [(31, _), (36, _), (40, _)]) (.new 8 9 (by decide +kernel) rfl rfl (.new 13 4 (by decide +kernel) rfl rfl (.new 17 0 (by decide +kernel) rfl rfl .nil))) (fun e_ => .inl ⟨rfl, V1.t (V1.eqB ty_4 rfl rfl rfl) ⟨rfl, rfl⟩⟩) ?_
      refine Det.cons 19 (ins := [(31, _), (41, _)]) (.new 8 10 (by decide +kernel) rfl rfl (.new 18 0 (by decide +kernel) rfl rfl .nil)) (fun e_ => .inl ⟨rfl, V1.t (V1.pick rfl z_D) ⟨rfl, rfl⟩⟩) ?_
      refine Det.cons 20 (ins := [(42, _)]) (.new 19 0 (by decide +kernel) rfl rfl .nil) (fun e_ => .inl ⟨rfl, V1.t (V1.assign' z_D) ⟨rfl, rfl⟩⟩) ?_
      refine Det.nil 21 (l := [(4, _)]) (.new 20 0 (by decide +kernel) rfl rfl .nil) (fun e_ => ?_)
      refine T.ret ?_
      exact ⟨_, G, _, .cons (.tmp z_D) .nil, z_A, rfl, congrArg Value.bool (tb_law ha3 hb3)⟩

theorem TermBack_any (w0 : World) (x y : Tm) (ca cb : List Value) (hxa : TmR w0 [] x ca) (hxb : TmR w0 [] y cb) : FnV P 4 [.agg ca.toArray, .agg cb.toArray] w0 [] (fun v => v = .bool true) := by
  obtain ⟨k, nm, ts⟩ := x
  obtain ⟨k2, nm2, ts2⟩ := y
  exact TermBack_us w0 ca cb hxa hxb
end Go.Proofs.YtlpkcbkflfbclaaDoor.S
