/- What is told is told in order, and who says something belongs to it. -/
import Derived.Test.YtlpkcbkflfbclaaGreatDoorG10
import Derived.Test.YtlpkcbkflfbclaaGreatDoorOpsK
namespace Go.Proofs.YtlpkcbkflfbclaaGreatDoor.S
open Go.RowKit

/-! ### The words, as keys -/
def keyT (n : Nat) : Value := .string (bstr (nmb sText [n]))
def kvT (i : Nat) : List (Value × Value) := (List.range i).map fun j => (keyT (j + 1), .bool true)
def qS (k v : Value) : Bool := match k, v with
  | .string a, .string b => a == b
  | _, _ => false
theorem kv_now (i n : Nat) : ∀ p ∈ kvT i, Instr.sameNow .string (keyT n) p.1 = some (qS (keyT n) p.1) := by
  intro p hp
  obtain ⟨j, _, rfl⟩ := List.mem_map.1 hp
  rfl
theorem key_ne : ∀ a < 26, ∀ b < 26, a ≠ b → qS (keyT a) (keyT b) = false := by decide +kernel
theorem kv_not {i : Nat} (hi : i < 25) : ∀ p ∈ kvT i, qS (keyT (i + 1)) p.1 = false := by
  intro p hp
  obtain ⟨j, hj, rfl⟩ := List.mem_map.1 hp
  have := List.mem_range.1 hj
  exact key_ne _ (by omega) _ (by omega) (by omega)
theorem findQ_none {q : Value → Bool} : ∀ {kv : List (Value × Value)} {i : Nat}, (∀ p ∈ kv, q p.1 = false) → findQ q kv i = none
  | [], _, _ => rfl
  | p :: kv, i, h => by rw [findQ, h p (by simp), if_neg (by decide)]; exact findQ_none fun x hx => h x (by simp [hx])
theorem kv_find {i : Nat} (hi : i < 25) : ((findQ (qS (keyT (i + 1))) (kvT i) 0).map (·.2)).getD (.bool false) = .bool false := by rw [findQ_none (kv_not hi)]; rfl
theorem kv_bits {i : Nat} (hi : i < 25) : ∀ p ∈ kvT i, qS (keyT (i + 1)) p.1 = true → Instr.sameBits 10000 p.1 (keyT (i + 1)) = true := by
  intro p hp h; rw [kv_not hi p hp] at h; cases h
theorem kv_upd {i : Nat} (hi : i < 25) : updQ (qS (keyT (i + 1))) (kvT i) (keyT (i + 1)) (.bool true) = kvT (i + 1) := by
  unfold updQ
  rw [findQ_none (kv_not hi)]
  unfold kvT
  rw [List.range_succ, List.map_append]; rfl
theorem shp_text : ∀ n < 26, shp (textT n) = true := by decide +kernel
theorem rd_at {C : Ctx} {L : List Blk} {b off size i : Nat} {tg : Option TypeId} {cs : List Value} {v : Value} (hf : Find L ⟨⟨b, tg⟩, off, cs, size⟩) (h : cs[i]? = some v) : Rd C L ⟨b, off + i, none⟩ v := RdN.at0 hf i v h
theorem TString_text (w0 : World) (n : Nat) (hn : n < 26) : FnV P 14 [.agg #[.int .i64 1, .string (bstr (nmb sText [n])), .slice none 0 0]] w0 [] (fun v => v = keyT n) := by
  have h := TString_any w0 [] (textT n) (cx := [.int .i64 1, .string (bstr (nmb sText [n])), .slice none 0 0]) TmR.atom (shp_text n hn) (by simp [textT, Tm.size, tsize])
  rwa [show txt (textT n) = nmb sText [n] by simp [textT, txt]] at h
/-! ### What is told -/
theorem tells_at {s : Sg} {m i : Nat} {t : Td} (h : SgInv m s) (ht : s.told[i]? = some t) : t.num = i + 1 ∧ 1 ≤ t.epoch ∧ t.who ∈ t.names ∧ t.names.Pairwise (· < ·) ∧ (∀ n ∈ t.names, 1 ≤ n ∧ n ≤ 6) ∧ t.names.length ≤ 6 := by
  obtain ⟨h1, h2, h3, h4⟩ := h.td i t ht
  obtain ⟨h5, h6⟩ := h.hs _ (List.mem_of_getElem? h3)
  exact ⟨h1, h2, h4, h5, h6, asc_len h5 h6⟩
theorem tells_mono {s : Sg} {m i : Nat} {t : Td} (h : SgInv m s) (hi : 0 < i) (ht : s.told[i]? = some t) : ∃ t0, s.told[i - 1]? = some t0 ∧ t0.epoch ≤ t.epoch := by
  obtain ⟨h1, h2⟩ := List.getElem?_eq_some_iff.1 ht
  refine ⟨s.told[i - 1]'(by omega), List.getElem?_eq_getElem (by omega), ?_⟩
  have := List.pairwise_iff_getElem.1 h.mono (i - 1) i (by omega) h1 (by omega)
  rwa [h2] at this
theorem prev_lt {ns : List Nat} (h : ns.Pairwise (· < ·)) {k n : Nat} (hn : ns[k]? = some n) (hk : 0 < k) : ∃ n0, ns[k - 1]? = some n0 ∧ n0 < n := by
  obtain ⟨h1, h2⟩ := List.getElem?_eq_some_iff.1 hn
  refine ⟨ns[k - 1]'(by omega), List.getElem?_eq_getElem (by omega), ?_⟩
  have := List.pairwise_iff_getElem.1 h (k - 1) k (by omega) h1 (by omega)
  rwa [h2] at this
theorem tk_in {ns : List Nat} {k n w : Nat} (hn : ns[k]? = some n) : decide (w ∈ ns.take (k + 1)) = (decide (w ∈ ns.take k) || decide (w = n)) := by
  rw [List.take_add_one, hn, Bool.eq_iff_iff]; simp
theorem known_step (s : Sg) (k w : Int) : s.known.length ≤ (s.step k w).2.known.length := by
  unfold Sg.step
  repeat' split
  all_goals first | exact Nat.le_refl _ | simp [Sg.turn, Sg.say, Sg.lay]
theorem known_runs {es : List (Int × Int)} : ∀ {s : Sg}, s.known.length ≤ (s.runs es).2.known.length := by
  induction es with
  | nil => intro s; exact Nat.le_refl _
  | cons e es ih =>
    intro s
    rw [Sg.runs]
    split
    · exact Nat.le_trans (known_step s e.1 e.2) ih
    · exact Nat.le_refl _
theorem tells_out {es : List (Int × Int)} (h : (sgRun es).1 = 0) : (sgOut es).told.length ≤ es.length ∧ 6 ≤ (sgOut es).known.length := by
  have hn : ¬ 24 < es.length := fun hl => by unfold sgRun at h; rw [if_pos hl] at h; cases h
  unfold sgOut
  rw [if_pos h]
  unfold sgRun
  rw [if_neg hn]
  have h1 := SgInv.start.runs (es := es)
  refine ⟨by have := h1.tl; omega, ?_⟩
  have := known_runs (es := es) (s := Sg.init)
  exact Nat.le_trans (by decide) this

set_option maxRecDepth 100000 in
set_option maxHeartbeats 8000000 in
theorem SagaTells_any (w0 : World) (Ps : List Blk) {es : List (Int × Int)} {a : Option Addr} {c : Nat} (hr : RowR w0 Ps 2 (.slice a es.length c) es.length (es.flatMap evC)) : FnV P 8 [.slice a es.length c] w0 Ps (fun v => v = .bool true) := by
  refine FnV.of 118 [.tmp 2] Go.Proofs.Tryz.func8 rfl rfl rfl rfl (fun G hG => ?_)
  refine T.seq ?_
  refine T.region ?_
  refine TL.cons rfl (V1.t (V1.assign' z_C) ?_)
  refine TL.nil ?_
  refine T.seq ?_
  refine T.seq ?_
  refine T.region ?_
  refine TL.cons rfl (T1.callV has_21 rfl rfl (hides_any w0) z_G (fun v_ hv => ?_))
  obtain rfl := hv
  refine TL.cons rfl (V1.t (V1.not rfl rfl) ?_)
  refine TL.nil ?_
  refine T.cond_f rfl ?_
  refine T.skip ?_
  refine T.seq ?_
  refine T.region ?_
  refine TL.cons rfl (V1.t (V1.move' z_C) ?_)
  refine TL.cons rfl (T1.callC has_22 rfl rfl (Run_us w0 Ps hr) z_G (fun v_ Y_ hY => ?_))
  obtain ⟨vt, vk, vb, Lt, Lk, Lb, Q, xt, xk, rfl, rfl, hst, hxt, hsk, hxk, hsb⟩ := hY
  simp only [List.append_assoc]
  obtain ⟨ak, ck, rfl, hrk⟩ := hsk.tm hxk
  obtain ⟨ts, hts, rfl, hA⟩ := hxt.items
  have hlt : ts.length = (sgOut es).told.length := by rw [← hts, List.length_map]
  have hrt := RowR.ofSl (w0 := w0) hst Inc.refl (by decide) ts.length (tdC_len hA)
  obtain ⟨at_, ct_, rfl⟩ := hrt.form
  refine TL.cons rfl (V1.t (V1.move' z_C) ?_)
  refine TL.cons rfl (V1.t (V1.extract rfl (by rfl)) ?_)
  refine TL.cons rfl (V1.t (V1.extract rfl (by rfl)) ?_)
  refine TL.cons rfl (V1.t (V1.extract rfl (by rfl)) ?_)
  refine TL.cons rfl (V1.t (V1.extract rfl (by rfl)) ?_)
  refine TL.cons rfl (V1.t (V1.assign' z_C) ?_)
  refine TL.cons rfl (V1.t (V1.assign' z_C) ?_)
  refine TL.cons rfl (V1.t (V1.assign' z_C) ?_)
  refine TL.cons rfl (V1.t (V1.assign' z_C) ?_)
  refine TL.nil ?_
  refine T.seq ?_
  refine T.seq ?_
  refine T.region ?_
  refine TL.cons rfl (V1.t (V1.move' z_C) ?_)
  refine TL.cons rfl (V1.t (V1.neI (r := decide ((sgRun es).1 ≠ 0)) rfl rfl rfl) ?_)
  rcases Classical.em ((sgRun es).1 = 0) with hc0 | hc0
  ·
    rw [decide_eq_false (by simpa using hc0)]
    have hI := out_inv hc0
    have htl := hI.tl
    obtain ⟨htn, hk6⟩ := tells_out hc0
    refine TL.nil ?_
    refine T.cond_f rfl ?_
    refine T.skip ?_
    refine T.seq ?_
    refine T.live (l := [(0, _), (3, _), (4, _)]) (.cons z_C (.cons z_C (.cons z_C .nil))) (fun e_ => ?_)
    refine T.region ?_
    refine TL.cons rfl (T1.makeMap (fun b32 => ?_))
    refine TL.cons rfl (V1.t (V1.assign' z_C) ?_)
    refine TL.nil ?_
    refine T.seq ?_
    refine T.seq ?_
    refine T.region ?_
    refine TL.cons rfl (V1.t (V1.move' z_C) ?_)
    refine TL.cons rfl (V1.t (V1.lenSl ty_43 rfl) ?_)
    refine TL.cons rfl (V1.t (V1.move' z_C) ?_)
    refine TL.nil ?_
    refine T.block ?_
    refine T.loopL (σ := Nat) (l0 := [(0, _), (3, _), (4, _), (7, _), (33, _), (34, _)]) (fun x => [(35, .int .i64 (x : Nat))]) (fun i L => L = (MB b32 (kvT (i)) : Blk) :: (Lt ++ (Lk ++ (Lb ++ (Q ++ G)))) ∧ i ≤ ts.length) (fun i => ts.length - i) 0 (.cons rfl .nil) (.cons z_C (.cons z_C (.cons z_C (.cons z_C (.cons z_C (.cons z_C .nil)))))) z_A (⟨rfl, Nat.zero_le _⟩) ?_
    rintro i e_ L ⟨rfl, hi⟩
    refine T.seq ?_
    refine T.region ?_
    refine TL.cons rfl (T1.ltI_split rfl rfl (fun h8 => ?_) (fun h8 => ?_))
    ·
      obtain ⟨x, hx0⟩ : ∃ x, ts[i]? = some x := ⟨_, List.getElem?_eq_getElem (by omega)⟩
      have hx := hA x (List.mem_of_getElem? hx0)
      obtain ⟨hnum, hep, hwho, hasc, h16, hl6⟩ := tells_at hI (show (sgOut es).told[i]? = some x.1 by rw [← hts, List.getElem?_map, hx0]; rfl)
      have hmono := fun h => tells_mono hI h (show (sgOut es).told[i]? = some x.1 by rw [← hts, List.getElem?_map, hx0]; rfl)
      obtain ⟨⟨wh, ep, nms, num⟩, cs⟩ := x
      dsimp only at hnum hep hwho hasc h16 hl6 hmono hx
      subst hnum
      obtain ⟨a1, c1, rfl, hrn⟩ := hx
      dsimp only at hrn
      obtain ⟨b2_, o2_, rfl, hrd2⟩ := hrn.at (List.length_pos_of_mem hwho) P
      obtain ⟨b_, o_, rfl, hrd⟩ := hrt.at (by omega) P
      refine TL.nil ?_
      refine T.seq ?_
      refine T.cond_t rfl ?_
      refine T.skip ?_
      refine T.seq ?_
      refine T.block ?_
      refine T.seq ?_
      refine T.region ?_
      refine TL.cons rfl (V1.t (V1.move' z_C) ?_)
      refine TL.cons rfl (V1.t (V1.indexAddrS ty_43 sz_55 rfl rfl (by omega) (by omega)) ?_)
      refine TL.cons rfl (V1.t (V1.loadN (vs := [iV wh, iV ep, .slice (some ⟨b2_, o2_, none⟩) nms.length c1, .int .i64 1, .string (bstr (nmb sText [i + 1])), .slice none 0 0]) one_55 sz_55 rfl (tdC_rd hA hx0 rfl (hrd _ rfl rfl _ z_G)) rfl) ?_)
      refine TL.cons rfl (T1.allocN 6 zr_55 rfl (fun b9 => ?_))
      refine TL.cons rfl (V1.t (V1.assign' z_C) ?_)
      refine TL.cons rfl (T1.storeN rfl rfl sz_55 (ones rfl) z_I (by rfl) (by rfl) ?_)
      refine TL.nil ?_
      refine T.seq ?_
      refine T.seq ?_
      rcases Nat.eq_zero_or_pos i with hi0 | hi0
      ·
        refine T.drawDet' mixed (by decide +kernel) ?_
        refine Det.cons 0 (ins := [(8, _)]) (.old z_C (by decide +kernel) .nil) (fun e_ => .inl ⟨rfl, V1.t (V1.move' z_C) ⟨rfl, rfl⟩⟩) ?_
        refine Det.cons 1 (ins := [(40, _)]) (.new 0 0 (by decide +kernel) rfl rfl .nil) (fun e_ => .inl ⟨rfl, V1.t (V1.gtI (r := false) rfl rfl (decide_eq_false (by omega))) ⟨rfl, rfl⟩⟩) ?_
        refine Det.cons 2 (ins := [(41, _)]) (.new 1 0 (by decide +kernel) rfl rfl .nil) (fun e_ => .inl ⟨rfl, V1.t (V1.move' z_C) ⟨rfl, rfl⟩⟩) ?_
        refine Det.cons 3 (ins := [(42, _)]) (.new 2 0 (by decide +kernel) rfl rfl .nil) (fun e_ => .inr ⟨rfl, rfl⟩) ?_
        refine Det.cons 4 (ins := [(42, _)]) (.new 2 1 (by decide +kernel) rfl rfl .nil) (fun e_ => .inr ⟨rfl, rfl⟩) ?_
        refine Det.cons 5 (ins := [(42, _)]) (.new 2 2 (by decide +kernel) rfl rfl .nil) (fun e_ => .inr ⟨rfl, rfl⟩) ?_
        refine Det.cons 6 (ins := [(42, _)]) (.new 2 3 (by decide +kernel) rfl rfl .nil) (fun e_ => .inr ⟨rfl, rfl⟩) ?_
        refine Det.cons 7 (ins := [(42, _)]) (.new 2 4 (by decide +kernel) rfl rfl .nil) (fun e_ => .inr ⟨rfl, rfl⟩) ?_
        refine Det.cons 8 (ins := [(42, _)]) (.new 2 5 (by decide +kernel) rfl rfl .nil) (fun e_ => .inr ⟨rfl, rfl⟩) ?_
        refine Det.cons 9 (ins := [(42, _)]) (.new 2 6 (by decide +kernel) rfl rfl .nil) (fun e_ => .inr ⟨rfl, rfl⟩) ?_
        refine Det.cons 10 (ins := [(42, _)]) (.new 2 7 (by decide +kernel) rfl rfl .nil) (fun e_ => .inr ⟨rfl, rfl⟩) ?_
        refine Det.cons 11 (ins := [(42, _)]) (.new 2 8 (by decide +kernel) rfl rfl .nil) (fun e_ => .inr ⟨rfl, rfl⟩) ?_
        refine Det.cons 12 (ins := [(42, _), (51, _)]) (.new 2 9 (by decide +kernel) rfl rfl (.new 11 0 (by decide +kernel) rfl rfl .nil)) (fun e_ => .inl ⟨rfl, V1.t (V1.pick rfl z_C) ⟨rfl, rfl⟩⟩) ?_
        refine Det.cons 13 (ins := [(52, _)]) (.new 12 0 (by decide +kernel) rfl rfl .nil) (fun e_ => .inl ⟨rfl, V1.t (V1.move' z_C) ⟨rfl, rfl⟩⟩) ?_
        refine Det.cons 14 (ins := [(9, _), (53, _)]) (.old z_C (by decide +kernel) (.new 13 0 (by decide +kernel) rfl rfl .nil)) (fun e_ => .inl ⟨rfl, V1.t (V1.fieldAddr fl_55_1 rfl) ⟨rfl, rfl⟩⟩) ?_
        refine Det.cons 15 (ins := [(53, _), (54, _)]) (.new 13 1 (by decide +kernel) rfl rfl (.new 14 0 (by decide +kernel) rfl rfl .nil)) (fun e_ => .inl ⟨rfl, V1.t (V1.load1 (v := iV ep) one_3 rfl (rd_at (off := 0) (i := 1) (cs := [iV wh, iV ep, .slice (some ⟨b2_, o2_, none⟩) nms.length c1, .int .i64 1, .string (bstr (nmb sText [i + 1])), .slice none 0 0]) z_F rfl)) ⟨rfl, rfl⟩⟩) ?_
        refine Det.cons 16 (ins := [(53, _), (55, _)]) (.new 13 2 (by decide +kernel) rfl rfl (.new 15 0 (by decide +kernel) rfl rfl .nil)) (fun e_ => .inl ⟨rfl, V1.t (V1.ltI (r := false) rfl rfl (decide_eq_false (by omega))) ⟨rfl, rfl⟩⟩) ?_
        refine Det.cons 17 (ins := [(53, _), (56, _)]) (.new 13 3 (by decide +kernel) rfl rfl (.new 16 0 (by decide +kernel) rfl rfl .nil)) (fun e_ => .inl ⟨rfl, V1.t (V1.pick rfl z_C) ⟨rfl, rfl⟩⟩) ?_
        refine Det.cons 18 (ins := [(57, _)]) (.new 17 0 (by decide +kernel) rfl rfl .nil) (fun e_ => .inl ⟨rfl, V1.t (V1.move' z_C) ⟨rfl, rfl⟩⟩) ?_
        refine Det.cons 19 (ins := [(7, _), (58, _)]) (.old z_C (by decide +kernel) (.new 18 0 (by decide +kernel) rfl rfl .nil)) (fun e_ => .inl ⟨rfl, V1.t (V1.move' z_C) ⟨rfl, rfl⟩⟩) ?_
        refine Det.cons 20 (ins := [(9, _), (58, _)]) (.old z_C (by decide +kernel) (.new 18 1 (by decide +kernel) rfl rfl .nil)) (fun e_ => .inl ⟨rfl, V1.t (V1.fieldAddr fl_55_3 rfl) ⟨rfl, rfl⟩⟩) ?_
        refine Det.cons 21 (ins := [(58, _), (60, _)]) (.new 18 2 (by decide +kernel) rfl rfl (.new 20 0 (by decide +kernel) rfl rfl .nil)) (fun e_ => .inl ⟨rfl, V1.t (V1.loadN (vs := [.int .i64 1, .string (bstr (nmb sText [i + 1])), .slice none 0 0]) one_24 sz_24 rfl (RdN.mid2 (pre := [iV wh, iV ep, .slice (some ⟨b2_, o2_, none⟩) nms.length c1]) (cs := [.int .i64 1, .string (bstr (nmb sText [i + 1])), .slice none 0 0]) (post := []) z_F rfl) rfl) ⟨rfl, rfl⟩⟩) ?_
        refine Det.cons 22 (ins := [(58, _), (61, _)]) (v := keyT (i + 1)) (.new 18 3 (by decide +kernel) rfl rfl (.new 21 0 (by decide +kernel) rfl rfl .nil)) (fun e_ => .inl ⟨rfl, ?_⟩) ?_
        · refine T1.callV has_14 rfl rfl (TString_text w0 (i + 1) (by omega)) z_G (fun v_ hv => ?_)
          obtain rfl := hv
          exact ⟨rfl, rfl⟩
        refine Det.cons 23 (ins := [(58, _), (59, _), (62, _)]) (.new 18 4 (by decide +kernel) rfl rfl (.new 19 3 (by decide +kernel) rfl rfl (.new 22 0 (by decide +kernel) rfl rfl .nil))) (fun e_ => .inl ⟨rfl, V1.t (V1.lookup (q := qS (keyT (i + 1))) (kv := kvT i) (v := .bool false) ty_69 zr_4 ty_9 rfl rfl rfl z_F (kv_now _ _) (kv_find (by omega))) ⟨rfl, rfl⟩⟩) ?_
        refine Det.cons 24 (ins := [(58, _), (63, _)]) (.new 18 5 (by decide +kernel) rfl rfl (.new 23 0 (by decide +kernel) rfl rfl .nil)) (fun e_ => .inl ⟨rfl, V1.t (V1.pick rfl z_C) ⟨rfl, rfl⟩⟩) ?_
        refine Det.nil 25 (l := [(0, _), (3, _), (4, _), (7, _), (9, _), (33, _), (34, _), (35, _), (64, _)]) (.old z_C (by decide +kernel) (.old z_C (by decide +kernel) (.old z_C (by decide +kernel) (.old z_C (by decide +kernel) (.old z_C (by decide +kernel) (.old z_C (by decide +kernel) (.old z_C (by decide +kernel) (.old z_C (by decide +kernel) (.new 24 0 (by decide +kernel) rfl rfl .nil))))))))) (fun e_ => ?_)
        refine T.cond_f rfl ?_
        refine T.skip ?_
        refine T.seq ?_
        refine T.region ?_
        refine TL.cons rfl (V1.t (V1.move' z_C) ?_)
        refine TL.cons rfl (V1.t (V1.fieldAddr fl_55_3 rfl) ?_)
        refine TL.cons rfl (V1.t (V1.loadN (vs := [.int .i64 1, .string (bstr (nmb sText [i + 1])), .slice none 0 0]) one_24 sz_24 rfl (RdN.mid2 (pre := [iV wh, iV ep, .slice (some ⟨b2_, o2_, none⟩) nms.length c1]) (cs := [.int .i64 1, .string (bstr (nmb sText [i + 1])), .slice none 0 0]) (post := []) z_F rfl) rfl) ?_)
        refine TL.cons rfl (T1.callV has_14 rfl rfl (TString_text w0 (i + 1) (by omega)) z_G (fun v_ hv => ?_))
        obtain rfl := hv
        refine TL.cons rfl (T1.mapUpdate (q := qS (keyT (i + 1))) (kv' := kvT (i + 1)) ty_69 ty_9 rfl rfl rfl rfl (kv_now _ _) (kv_bits (by omega)) (kv_upd (by omega)) z_I ?_)
        refine TL.nil ?_
        refine T.seq ?_
        refine T.region ?_
        refine TL.cons rfl (V1.t (V1.assign' z_C) ?_)
        refine TL.nil ?_
        refine T.seq ?_
        refine T.seq ?_
        refine T.region ?_
        refine TL.cons rfl (V1.t (V1.fieldAddr fl_55_2 rfl) ?_)
        refine TL.cons rfl (V1.t (V1.load1 (v := .slice (some ⟨b2_, o2_, none⟩) nms.length c1) one_44 rfl (rd_at (off := 0) (i := 2) (cs := [iV wh, iV ep, .slice (some ⟨b2_, o2_, none⟩) nms.length c1, .int .i64 1, .string (bstr (nmb sText [i + 1])), .slice none 0 0]) z_F rfl)) ?_)
        refine TL.cons rfl (V1.t (V1.lenSl ty_44 rfl) ?_)
        refine TL.cons rfl (V1.t (V1.move' z_C) ?_)
        refine TL.nil ?_
        refine T.block ?_
        refine T.loopL (σ := Nat × Bool) (l0 := [(0, _), (3, _), (4, _), (7, _), (9, _), (33, _), (34, _), (35, _), (70, _), (71, _)]) (fun x => [(72, .int .i64 (x.1 : Nat)), (10, .bool x.2)]) (fun x L => L = (⟨b9, 0, [iV wh, iV ep, .slice (some ⟨b2_, o2_, none⟩) nms.length c1, .int .i64 1, .string (bstr (nmb sText [i + 1])), .slice none 0 0], 6⟩ : Blk) :: (MB b32 (kvT (i + 1)) : Blk) :: (Lt ++ (Lk ++ (Lb ++ (Q ++ G)))) ∧ x.1 ≤ nms.length ∧ x.2 = decide (wh ∈ nms.take x.1)) (fun x => nms.length - x.1) (0, false) (.cons rfl (.cons rfl .nil)) (.cons z_C (.cons z_C (.cons z_C (.cons z_C (.cons z_C (.cons z_C (.cons z_C (.cons z_C (.cons z_C (.cons z_C .nil)))))))))) z_A (⟨rfl, Nat.zero_le _, by simp⟩) ?_
        rintro ⟨k, r⟩ e_ L ⟨rfl, hk_, hr_⟩
        simp only at hk_ hr_
        dsimp only
        refine T.seq ?_
        refine T.region ?_
        refine TL.cons rfl (T1.ltI_split rfl rfl (fun h15 => ?_) (fun h15 => ?_))
        ·
          obtain ⟨n, hn0⟩ : ∃ n, nms[k]? = some n := ⟨_, List.getElem?_eq_getElem (by omega)⟩
          have hn16 := h16 n (List.mem_of_getElem? hn0)
          refine TL.nil ?_
          refine T.seq ?_
          refine T.cond_t rfl ?_
          refine T.skip ?_
          refine T.seq ?_
          refine T.block ?_
          refine T.seq ?_
          refine T.region ?_
          refine TL.cons rfl (V1.t (V1.move' z_C) ?_)
          refine TL.cons rfl (V1.t (V1.indexAddrS ty_44 sz_3 rfl rfl (by omega) (by omega)) ?_)
          refine TL.cons rfl (V1.t (V1.load1 (v := iV n) one_3 rfl (show Rd _ _ ⟨_, _ + k * 1, none⟩ _ from by rw [Nat.mul_one]; exact hrd2 _ rfl rfl _ z_G k _ (by rw [List.getElem?_map, hn0]; rfl))) ?_)
          refine TL.cons rfl (V1.t (V1.assign' z_C) ?_)
          refine TL.cons rfl (V1.t (V1.assign' z_C) ?_)
          refine TL.nil ?_
          refine T.seq ?_
          obtain hcc | hcc | hcc : r = true ∨ (r = false ∧ n = wh) ∨ (r = false ∧ n ≠ wh) := by cases r <;> simp [Classical.em]
          ·
            subst hcc
            refine T.region ?_
            refine TL.cons rfl (V1.t (V1.move' z_C) ?_)
            refine TL.cons rfl (V1.t (V1.move' z_C) ?_)
            refine TL.no rfl ?_
            refine TL.no rfl ?_
            refine TL.no rfl ?_
            refine TL.no rfl ?_
            refine TL.cons rfl (V1.t (V1.pick rfl z_C) ?_)
            refine TL.cons rfl (V1.t (V1.assign' z_C) ?_)
            refine TL.nil ?_
            refine T.seq ?_
            rcases Nat.eq_zero_or_pos k with hk0 | hk0
            ·
              refine T.region ?_
              refine TL.cons rfl (V1.t (V1.move' z_C) ?_)
              refine TL.cons rfl (V1.t (V1.gtI (r := false) rfl rfl (decide_eq_false (by omega))) ?_)
              refine TL.cons rfl (V1.t (V1.move' z_C) ?_)
              refine TL.no rfl ?_
              refine TL.no rfl ?_
              refine TL.no rfl ?_
              refine TL.no rfl ?_
              refine TL.no rfl ?_
              refine TL.no rfl ?_
              refine TL.no rfl ?_
              refine TL.no rfl ?_
              refine TL.cons rfl (V1.t (V1.pick rfl z_C) ?_)
              refine TL.cons rfl (V1.t (V1.move' z_C) ?_)
              refine TL.cons rfl (V1.t (V1.move' z_C) ?_)
              refine TL.cons rfl (V1.t (V1.ltI (r := false) rfl rfl (decide_eq_false (by omega))) ?_)
              refine TL.cons rfl (V1.t (V1.pick rfl z_C) ?_)
              refine TL.cons rfl (V1.t (V1.move' z_C) ?_)
              refine TL.cons rfl (V1.t (V1.move' z_C) ?_)
              refine TL.cons rfl (V1.t (V1.gtI (r := false) rfl rfl (decide_eq_false (by omega))) ?_)
              refine TL.cons rfl (V1.t (V1.pick rfl z_C) ?_)
              refine TL.nil ?_
              refine T.cond_f rfl ?_
              refine T.skip ?_
              refine T.live (l := [(0, _), (3, _), (4, _), (7, _), (9, _), (10, _), (33, _), (34, _), (35, _), (70, _), (71, _), (72, _)]) (.cons z_C (.cons z_C (.cons z_C (.cons z_C (.cons z_C (.cons z_C (.cons z_C (.cons z_C (.cons z_C (.cons z_C (.cons z_C (.cons z_C .nil)))))))))))) (fun e_ => ?_)
              refine T.region ?_
              refine TL.cons rfl (V1.t (V1.add (c := ((k + 1 : Nat) : Int)) rfl rfl (by rw [wrap_i64 _ (by omega) (by omega)]; omega)) ?_)
              refine TL.cons rfl (V1.t (V1.move' z_C) ?_)
              refine TL.nil ?_
              exact ⟨(k + 1, true), (⟨b9, 0, [iV wh, iV ep, .slice (some ⟨b2_, o2_, none⟩) nms.length c1, .int .i64 1, .string (bstr (nmb sText [i + 1])), .slice none 0 0], 6⟩ : Blk) :: (MB b32 (kvT (i + 1)) : Blk) :: (Lt ++ (Lk ++ (Lb ++ (Q ++ G)))), _, (by simp only; omega), (.cons rfl (.cons rfl .nil)), (.cons rfl (.cons rfl (.cons rfl (.cons rfl (.cons rfl (.cons rfl (.cons rfl (.cons rfl (.cons rfl (.cons rfl .nil)))))))))), z_A, ⟨rfl, by simp only; omega, by simp only; rw [tk_in hn0, ← hr_]; rfl⟩⟩
            ·
              obtain ⟨n0, hn00, hn0l⟩ := prev_lt hasc hn0 hk0
              refine T.region ?_
              refine TL.cons rfl (V1.t (V1.move' z_C) ?_)
              refine TL.cons rfl (V1.t (V1.gtI (r := true) rfl rfl (decide_eq_true (by omega))) ?_)
              refine TL.cons rfl (V1.t (V1.move' z_C) ?_)
              refine TL.cons rfl (V1.t (V1.fieldAddr fl_55_2 rfl) ?_)
              refine TL.cons rfl (V1.t (V1.load1 (v := .slice (some ⟨b2_, o2_, none⟩) nms.length c1) one_44 rfl (rd_at (off := 0) (i := 2) (cs := [iV wh, iV ep, .slice (some ⟨b2_, o2_, none⟩) nms.length c1, .int .i64 1, .string (bstr (nmb sText [i + 1])), .slice none 0 0]) z_F rfl)) ?_)
              refine TL.cons rfl (V1.t (V1.move' z_C) ?_)
              refine TL.cons rfl (V1.t (V1.sub (c := ((k - 1 : Nat) : Int)) rfl rfl (by rw [wrap_i64 _ (by omega) (by omega)]; omega)) ?_)
              refine TL.cons rfl (V1.t (V1.indexAddrS ty_44 sz_3 rfl rfl (by omega) (by omega)) ?_)
              refine TL.cons rfl (V1.t (V1.load1 (v := iV n0) one_3 rfl (show Rd _ _ ⟨_, _ + (k - 1) * 1, none⟩ _ from by rw [Nat.mul_one]; exact hrd2 _ rfl rfl _ z_G (k - 1) _ (by rw [List.getElem?_map, hn00]; rfl))) ?_)
              refine TL.cons rfl (V1.t (V1.move' z_C) ?_)
              refine TL.cons rfl (V1.t (V1.geI (r := false) rfl rfl (decide_eq_false (by omega))) ?_)
              refine TL.cons rfl (V1.t (V1.pick rfl z_C) ?_)
              refine TL.cons rfl (V1.t (V1.move' z_C) ?_)
              refine TL.cons rfl (V1.t (V1.move' z_C) ?_)
              refine TL.cons rfl (V1.t (V1.ltI (r := false) rfl rfl (decide_eq_false (by omega))) ?_)
              refine TL.cons rfl (V1.t (V1.pick rfl z_C) ?_)
              refine TL.cons rfl (V1.t (V1.move' z_C) ?_)
              refine TL.cons rfl (V1.t (V1.move' z_C) ?_)
              refine TL.cons rfl (V1.t (V1.gtI (r := false) rfl rfl (decide_eq_false (by omega))) ?_)
              refine TL.cons rfl (V1.t (V1.pick rfl z_C) ?_)
              refine TL.nil ?_
              refine T.cond_f rfl ?_
              refine T.skip ?_
              refine T.live (l := [(0, _), (3, _), (4, _), (7, _), (9, _), (10, _), (33, _), (34, _), (35, _), (70, _), (71, _), (72, _)]) (.cons z_C (.cons z_C (.cons z_C (.cons z_C (.cons z_C (.cons z_C (.cons z_C (.cons z_C (.cons z_C (.cons z_C (.cons z_C (.cons z_C .nil)))))))))))) (fun e_ => ?_)
              refine T.region ?_
              refine TL.cons rfl (V1.t (V1.add (c := ((k + 1 : Nat) : Int)) rfl rfl (by rw [wrap_i64 _ (by omega) (by omega)]; omega)) ?_)
              refine TL.cons rfl (V1.t (V1.move' z_C) ?_)
              refine TL.nil ?_
              exact ⟨(k + 1, true), (⟨b9, 0, [iV wh, iV ep, .slice (some ⟨b2_, o2_, none⟩) nms.length c1, .int .i64 1, .string (bstr (nmb sText [i + 1])), .slice none 0 0], 6⟩ : Blk) :: (MB b32 (kvT (i + 1)) : Blk) :: (Lt ++ (Lk ++ (Lb ++ (Q ++ G)))), _, (by simp only; omega), (.cons rfl (.cons rfl .nil)), (.cons rfl (.cons rfl (.cons rfl (.cons rfl (.cons rfl (.cons rfl (.cons rfl (.cons rfl (.cons rfl (.cons rfl .nil)))))))))), z_A, ⟨rfl, by simp only; omega, by simp only; rw [tk_in hn0, ← hr_]; rfl⟩⟩
          ·
            obtain ⟨rfl, hcc⟩ := hcc
            refine T.region ?_
            refine TL.cons rfl (V1.t (V1.move' z_C) ?_)
            refine TL.cons rfl (V1.t (V1.move' z_C) ?_)
            refine TL.cons rfl (V1.t (V1.move' z_C) ?_)
            refine TL.cons rfl (V1.t (V1.fieldAddr fl_55_0 rfl) ?_)
            refine TL.cons rfl (V1.t (V1.load1 (v := iV wh) one_3 rfl (rd_at (off := 0) (i := 0) (cs := [iV wh, iV ep, .slice (some ⟨b2_, o2_, none⟩) nms.length c1, .int .i64 1, .string (bstr (nmb sText [i + 1])), .slice none 0 0]) z_F rfl)) ?_)
            refine TL.cons rfl (V1.t (V1.eqI (r := true) rfl rfl (decide_eq_true (by omega))) ?_)
            refine TL.cons rfl (V1.t (V1.pick rfl z_C) ?_)
            refine TL.cons rfl (V1.t (V1.assign' z_C) ?_)
            refine TL.nil ?_
            refine T.seq ?_
            rcases Nat.eq_zero_or_pos k with hk0 | hk0
            ·
              refine T.region ?_
              refine TL.cons rfl (V1.t (V1.move' z_C) ?_)
              refine TL.cons rfl (V1.t (V1.gtI (r := false) rfl rfl (decide_eq_false (by omega))) ?_)
              refine TL.cons rfl (V1.t (V1.move' z_C) ?_)
              refine TL.no rfl ?_
              refine TL.no rfl ?_
              refine TL.no rfl ?_
              refine TL.no rfl ?_
              refine TL.no rfl ?_
              refine TL.no rfl ?_
              refine TL.no rfl ?_
              refine TL.no rfl ?_
              refine TL.cons rfl (V1.t (V1.pick rfl z_C) ?_)
              refine TL.cons rfl (V1.t (V1.move' z_C) ?_)
              refine TL.cons rfl (V1.t (V1.move' z_C) ?_)
              refine TL.cons rfl (V1.t (V1.ltI (r := false) rfl rfl (decide_eq_false (by omega))) ?_)
              refine TL.cons rfl (V1.t (V1.pick rfl z_C) ?_)
              refine TL.cons rfl (V1.t (V1.move' z_C) ?_)
              refine TL.cons rfl (V1.t (V1.move' z_C) ?_)
              refine TL.cons rfl (V1.t (V1.gtI (r := false) rfl rfl (decide_eq_false (by omega))) ?_)
              refine TL.cons rfl (V1.t (V1.pick rfl z_C) ?_)
              refine TL.nil ?_
              refine T.cond_f rfl ?_
              refine T.skip ?_
              refine T.live (l := [(0, _), (3, _), (4, _), (7, _), (9, _), (10, _), (33, _), (34, _), (35, _), (70, _), (71, _), (72, _)]) (.cons z_C (.cons z_C (.cons z_C (.cons z_C (.cons z_C (.cons z_C (.cons z_C (.cons z_C (.cons z_C (.cons z_C (.cons z_C (.cons z_C .nil)))))))))))) (fun e_ => ?_)
              refine T.region ?_
              refine TL.cons rfl (V1.t (V1.add (c := ((k + 1 : Nat) : Int)) rfl rfl (by rw [wrap_i64 _ (by omega) (by omega)]; omega)) ?_)
              refine TL.cons rfl (V1.t (V1.move' z_C) ?_)
              refine TL.nil ?_
              exact ⟨(k + 1, true), (⟨b9, 0, [iV wh, iV ep, .slice (some ⟨b2_, o2_, none⟩) nms.length c1, .int .i64 1, .string (bstr (nmb sText [i + 1])), .slice none 0 0], 6⟩ : Blk) :: (MB b32 (kvT (i + 1)) : Blk) :: (Lt ++ (Lk ++ (Lb ++ (Q ++ G)))), _, (by simp only; omega), (.cons rfl (.cons rfl .nil)), (.cons rfl (.cons rfl (.cons rfl (.cons rfl (.cons rfl (.cons rfl (.cons rfl (.cons rfl (.cons rfl (.cons rfl .nil)))))))))), z_A, ⟨rfl, by simp only; omega, by simp only; rw [tk_in hn0, ← hr_]; rw [decide_eq_true hcc.symm]; rfl⟩⟩
            ·
              obtain ⟨n0, hn00, hn0l⟩ := prev_lt hasc hn0 hk0
              refine T.region ?_
              refine TL.cons rfl (V1.t (V1.move' z_C) ?_)
              refine TL.cons rfl (V1.t (V1.gtI (r := true) rfl rfl (decide_eq_true (by omega))) ?_)
              refine TL.cons rfl (V1.t (V1.move' z_C) ?_)
              refine TL.cons rfl (V1.t (V1.fieldAddr fl_55_2 rfl) ?_)
              refine TL.cons rfl (V1.t (V1.load1 (v := .slice (some ⟨b2_, o2_, none⟩) nms.length c1) one_44 rfl (rd_at (off := 0) (i := 2) (cs := [iV wh, iV ep, .slice (some ⟨b2_, o2_, none⟩) nms.length c1, .int .i64 1, .string (bstr (nmb sText [i + 1])), .slice none 0 0]) z_F rfl)) ?_)
              refine TL.cons rfl (V1.t (V1.move' z_C) ?_)
              refine TL.cons rfl (V1.t (V1.sub (c := ((k - 1 : Nat) : Int)) rfl rfl (by rw [wrap_i64 _ (by omega) (by omega)]; omega)) ?_)
              refine TL.cons rfl (V1.t (V1.indexAddrS ty_44 sz_3 rfl rfl (by omega) (by omega)) ?_)
              refine TL.cons rfl (V1.t (V1.load1 (v := iV n0) one_3 rfl (show Rd _ _ ⟨_, _ + (k - 1) * 1, none⟩ _ from by rw [Nat.mul_one]; exact hrd2 _ rfl rfl _ z_G (k - 1) _ (by rw [List.getElem?_map, hn00]; rfl))) ?_)
              refine TL.cons rfl (V1.t (V1.move' z_C) ?_)
              refine TL.cons rfl (V1.t (V1.geI (r := false) rfl rfl (decide_eq_false (by omega))) ?_)
              refine TL.cons rfl (V1.t (V1.pick rfl z_C) ?_)
              refine TL.cons rfl (V1.t (V1.move' z_C) ?_)
              refine TL.cons rfl (V1.t (V1.move' z_C) ?_)
              refine TL.cons rfl (V1.t (V1.ltI (r := false) rfl rfl (decide_eq_false (by omega))) ?_)
              refine TL.cons rfl (V1.t (V1.pick rfl z_C) ?_)
              refine TL.cons rfl (V1.t (V1.move' z_C) ?_)
              refine TL.cons rfl (V1.t (V1.move' z_C) ?_)
              refine TL.cons rfl (V1.t (V1.gtI (r := false) rfl rfl (decide_eq_false (by omega))) ?_)
              refine TL.cons rfl (V1.t (V1.pick rfl z_C) ?_)
              refine TL.nil ?_
              refine T.cond_f rfl ?_
              refine T.skip ?_
              refine T.live (l := [(0, _), (3, _), (4, _), (7, _), (9, _), (10, _), (33, _), (34, _), (35, _), (70, _), (71, _), (72, _)]) (.cons z_C (.cons z_C (.cons z_C (.cons z_C (.cons z_C (.cons z_C (.cons z_C (.cons z_C (.cons z_C (.cons z_C (.cons z_C (.cons z_C .nil)))))))))))) (fun e_ => ?_)
              refine T.region ?_
              refine TL.cons rfl (V1.t (V1.add (c := ((k + 1 : Nat) : Int)) rfl rfl (by rw [wrap_i64 _ (by omega) (by omega)]; omega)) ?_)
              refine TL.cons rfl (V1.t (V1.move' z_C) ?_)
              refine TL.nil ?_
              exact ⟨(k + 1, true), (⟨b9, 0, [iV wh, iV ep, .slice (some ⟨b2_, o2_, none⟩) nms.length c1, .int .i64 1, .string (bstr (nmb sText [i + 1])), .slice none 0 0], 6⟩ : Blk) :: (MB b32 (kvT (i + 1)) : Blk) :: (Lt ++ (Lk ++ (Lb ++ (Q ++ G)))), _, (by simp only; omega), (.cons rfl (.cons rfl .nil)), (.cons rfl (.cons rfl (.cons rfl (.cons rfl (.cons rfl (.cons rfl (.cons rfl (.cons rfl (.cons rfl (.cons rfl .nil)))))))))), z_A, ⟨rfl, by simp only; omega, by simp only; rw [tk_in hn0, ← hr_]; rw [decide_eq_true hcc.symm]; rfl⟩⟩
          ·
            obtain ⟨rfl, hcc⟩ := hcc
            refine T.region ?_
            refine TL.cons rfl (V1.t (V1.move' z_C) ?_)
            refine TL.cons rfl (V1.t (V1.move' z_C) ?_)
            refine TL.cons rfl (V1.t (V1.move' z_C) ?_)
            refine TL.cons rfl (V1.t (V1.fieldAddr fl_55_0 rfl) ?_)
            refine TL.cons rfl (V1.t (V1.load1 (v := iV wh) one_3 rfl (rd_at (off := 0) (i := 0) (cs := [iV wh, iV ep, .slice (some ⟨b2_, o2_, none⟩) nms.length c1, .int .i64 1, .string (bstr (nmb sText [i + 1])), .slice none 0 0]) z_F rfl)) ?_)
            refine TL.cons rfl (V1.t (V1.eqI (r := false) rfl rfl (decide_eq_false (by omega))) ?_)
            refine TL.cons rfl (V1.t (V1.pick rfl z_C) ?_)
            refine TL.cons rfl (V1.t (V1.assign' z_C) ?_)
            refine TL.nil ?_
            refine T.seq ?_
            rcases Nat.eq_zero_or_pos k with hk0 | hk0
            ·
              refine T.region ?_
              refine TL.cons rfl (V1.t (V1.move' z_C) ?_)
              refine TL.cons rfl (V1.t (V1.gtI (r := false) rfl rfl (decide_eq_false (by omega))) ?_)
              refine TL.cons rfl (V1.t (V1.move' z_C) ?_)
              refine TL.no rfl ?_
              refine TL.no rfl ?_
              refine TL.no rfl ?_
              refine TL.no rfl ?_
              refine TL.no rfl ?_
              refine TL.no rfl ?_
              refine TL.no rfl ?_
              refine TL.no rfl ?_
              refine TL.cons rfl (V1.t (V1.pick rfl z_C) ?_)
              refine TL.cons rfl (V1.t (V1.move' z_C) ?_)
              refine TL.cons rfl (V1.t (V1.move' z_C) ?_)
              refine TL.cons rfl (V1.t (V1.ltI (r := false) rfl rfl (decide_eq_false (by omega))) ?_)
              refine TL.cons rfl (V1.t (V1.pick rfl z_C) ?_)
              refine TL.cons rfl (V1.t (V1.move' z_C) ?_)
              refine TL.cons rfl (V1.t (V1.move' z_C) ?_)
              refine TL.cons rfl (V1.t (V1.gtI (r := false) rfl rfl (decide_eq_false (by omega))) ?_)
              refine TL.cons rfl (V1.t (V1.pick rfl z_C) ?_)
              refine TL.nil ?_
              refine T.cond_f rfl ?_
              refine T.skip ?_
              refine T.live (l := [(0, _), (3, _), (4, _), (7, _), (9, _), (10, _), (33, _), (34, _), (35, _), (70, _), (71, _), (72, _)]) (.cons z_C (.cons z_C (.cons z_C (.cons z_C (.cons z_C (.cons z_C (.cons z_C (.cons z_C (.cons z_C (.cons z_C (.cons z_C (.cons z_C .nil)))))))))))) (fun e_ => ?_)
              refine T.region ?_
              refine TL.cons rfl (V1.t (V1.add (c := ((k + 1 : Nat) : Int)) rfl rfl (by rw [wrap_i64 _ (by omega) (by omega)]; omega)) ?_)
              refine TL.cons rfl (V1.t (V1.move' z_C) ?_)
              refine TL.nil ?_
              exact ⟨(k + 1, false), (⟨b9, 0, [iV wh, iV ep, .slice (some ⟨b2_, o2_, none⟩) nms.length c1, .int .i64 1, .string (bstr (nmb sText [i + 1])), .slice none 0 0], 6⟩ : Blk) :: (MB b32 (kvT (i + 1)) : Blk) :: (Lt ++ (Lk ++ (Lb ++ (Q ++ G)))), _, (by simp only; omega), (.cons rfl (.cons rfl .nil)), (.cons rfl (.cons rfl (.cons rfl (.cons rfl (.cons rfl (.cons rfl (.cons rfl (.cons rfl (.cons rfl (.cons rfl .nil)))))))))), z_A, ⟨rfl, by simp only; omega, by simp only; rw [tk_in hn0, ← hr_]; rw [decide_eq_false (fun h => hcc h.symm)]; rfl⟩⟩
            ·
              obtain ⟨n0, hn00, hn0l⟩ := prev_lt hasc hn0 hk0
              refine T.region ?_
              refine TL.cons rfl (V1.t (V1.move' z_C) ?_)
              refine TL.cons rfl (V1.t (V1.gtI (r := true) rfl rfl (decide_eq_true (by omega))) ?_)
              refine TL.cons rfl (V1.t (V1.move' z_C) ?_)
              refine TL.cons rfl (V1.t (V1.fieldAddr fl_55_2 rfl) ?_)
              refine TL.cons rfl (V1.t (V1.load1 (v := .slice (some ⟨b2_, o2_, none⟩) nms.length c1) one_44 rfl (rd_at (off := 0) (i := 2) (cs := [iV wh, iV ep, .slice (some ⟨b2_, o2_, none⟩) nms.length c1, .int .i64 1, .string (bstr (nmb sText [i + 1])), .slice none 0 0]) z_F rfl)) ?_)
              refine TL.cons rfl (V1.t (V1.move' z_C) ?_)
              refine TL.cons rfl (V1.t (V1.sub (c := ((k - 1 : Nat) : Int)) rfl rfl (by rw [wrap_i64 _ (by omega) (by omega)]; omega)) ?_)
              refine TL.cons rfl (V1.t (V1.indexAddrS ty_44 sz_3 rfl rfl (by omega) (by omega)) ?_)
              refine TL.cons rfl (V1.t (V1.load1 (v := iV n0) one_3 rfl (show Rd _ _ ⟨_, _ + (k - 1) * 1, none⟩ _ from by rw [Nat.mul_one]; exact hrd2 _ rfl rfl _ z_G (k - 1) _ (by rw [List.getElem?_map, hn00]; rfl))) ?_)
              refine TL.cons rfl (V1.t (V1.move' z_C) ?_)
              refine TL.cons rfl (V1.t (V1.geI (r := false) rfl rfl (decide_eq_false (by omega))) ?_)
              refine TL.cons rfl (V1.t (V1.pick rfl z_C) ?_)
              refine TL.cons rfl (V1.t (V1.move' z_C) ?_)
              refine TL.cons rfl (V1.t (V1.move' z_C) ?_)
              refine TL.cons rfl (V1.t (V1.ltI (r := false) rfl rfl (decide_eq_false (by omega))) ?_)
              refine TL.cons rfl (V1.t (V1.pick rfl z_C) ?_)
              refine TL.cons rfl (V1.t (V1.move' z_C) ?_)
              refine TL.cons rfl (V1.t (V1.move' z_C) ?_)
              refine TL.cons rfl (V1.t (V1.gtI (r := false) rfl rfl (decide_eq_false (by omega))) ?_)
              refine TL.cons rfl (V1.t (V1.pick rfl z_C) ?_)
              refine TL.nil ?_
              refine T.cond_f rfl ?_
              refine T.skip ?_
              refine T.live (l := [(0, _), (3, _), (4, _), (7, _), (9, _), (10, _), (33, _), (34, _), (35, _), (70, _), (71, _), (72, _)]) (.cons z_C (.cons z_C (.cons z_C (.cons z_C (.cons z_C (.cons z_C (.cons z_C (.cons z_C (.cons z_C (.cons z_C (.cons z_C (.cons z_C .nil)))))))))))) (fun e_ => ?_)
              refine T.region ?_
              refine TL.cons rfl (V1.t (V1.add (c := ((k + 1 : Nat) : Int)) rfl rfl (by rw [wrap_i64 _ (by omega) (by omega)]; omega)) ?_)
              refine TL.cons rfl (V1.t (V1.move' z_C) ?_)
              refine TL.nil ?_
              exact ⟨(k + 1, false), (⟨b9, 0, [iV wh, iV ep, .slice (some ⟨b2_, o2_, none⟩) nms.length c1, .int .i64 1, .string (bstr (nmb sText [i + 1])), .slice none 0 0], 6⟩ : Blk) :: (MB b32 (kvT (i + 1)) : Blk) :: (Lt ++ (Lk ++ (Lb ++ (Q ++ G)))), _, (by simp only; omega), (.cons rfl (.cons rfl .nil)), (.cons rfl (.cons rfl (.cons rfl (.cons rfl (.cons rfl (.cons rfl (.cons rfl (.cons rfl (.cons rfl (.cons rfl .nil)))))))))), z_A, ⟨rfl, by simp only; omega, by simp only; rw [tk_in hn0, ← hr_]; rw [decide_eq_false (fun h => hcc h.symm)]; rfl⟩⟩
        ·
          obtain rfl : k = nms.length := by omega
          rw [List.take_length, decide_eq_true hwho] at hr_
          subst hr_
          refine TL.nil ?_
          refine T.seq ?_
          refine T.cond_f rfl ?_
          refine T.exit ?_
          refine T.seq ?_
          refine T.region ?_
          refine TL.cons rfl (V1.t (V1.move' z_C) ?_)
          refine TL.cons rfl (V1.t (V1.not rfl rfl) ?_)
          refine TL.nil ?_
          refine T.cond_f rfl ?_
          refine T.skip ?_
          refine T.region ?_
          refine TL.cons rfl (V1.t (V1.add (c := ((i + 1 : Nat) : Int)) rfl rfl (by rw [wrap_i64 _ (by omega) (by omega)]; omega)) ?_)
          refine TL.cons rfl (V1.t (V1.move' z_C) ?_)
          refine TL.nil ?_
          exact ⟨i + 1, (MB b32 (kvT (i + 1)) : Blk) :: (Lt ++ (Lk ++ (Lb ++ (Q ++ G)))), _, (by simp only; omega), (.cons rfl .nil), (.cons rfl (.cons rfl (.cons rfl (.cons rfl (.cons rfl (.cons rfl .nil)))))), z_A, ⟨rfl, by omega⟩⟩
      ·
        obtain ⟨t0, ht0, hle0⟩ := hmono hi0
        obtain ⟨y, hy0, rfl⟩ : ∃ y : TdE, ts[i - 1]? = some y ∧ y.1 = t0 := by rw [← hts, List.getElem?_map] at ht0; cases hy : ts[i - 1]? with | none => rw [hy] at ht0; cases ht0 | some y => rw [hy] at ht0; exact ⟨y, rfl, Option.some.inj ht0⟩
        have hy := hA y (List.mem_of_getElem? hy0)
        obtain ⟨⟨wh0, ep0, nms0, num0⟩, cs0⟩ := y
        dsimp only at hle0 hy
        obtain ⟨a0, c0, rfl, _⟩ := hy
        refine T.drawDet' mixed (by decide +kernel) ?_
        refine Det.cons 0 (ins := [(8, _)]) (.old z_C (by decide +kernel) .nil) (fun e_ => .inl ⟨rfl, V1.t (V1.move' z_C) ⟨rfl, rfl⟩⟩) ?_
        refine Det.cons 1 (ins := [(40, _)]) (.new 0 0 (by decide +kernel) rfl rfl .nil) (fun e_ => .inl ⟨rfl, V1.t (V1.gtI (r := true) rfl rfl (decide_eq_true (by omega))) ⟨rfl, rfl⟩⟩) ?_
        refine Det.cons 2 (ins := [(41, _)]) (.new 1 0 (by decide +kernel) rfl rfl .nil) (fun e_ => .inl ⟨rfl, V1.t (V1.move' z_C) ⟨rfl, rfl⟩⟩) ?_
        refine Det.cons 3 (ins := [(9, _), (42, _)]) (.old z_C (by decide +kernel) (.new 2 0 (by decide +kernel) rfl rfl .nil)) (fun e_ => .inl ⟨rfl, V1.t (V1.fieldAddr fl_55_1 rfl) ⟨rfl, rfl⟩⟩) ?_
        refine Det.cons 4 (ins := [(42, _), (43, _)]) (.new 2 1 (by decide +kernel) rfl rfl (.new 3 0 (by decide +kernel) rfl rfl .nil)) (fun e_ => .inl ⟨rfl, V1.t (V1.load1 (v := iV ep) one_3 rfl (rd_at (off := 0) (i := 1) (cs := [iV wh, iV ep, .slice (some ⟨b2_, o2_, none⟩) nms.length c1, .int .i64 1, .string (bstr (nmb sText [i + 1])), .slice none 0 0]) z_F rfl)) ⟨rfl, rfl⟩⟩) ?_
        refine Det.cons 5 (ins := [(3, _), (42, _)]) (.old z_C (by decide +kernel) (.new 2 2 (by decide +kernel) rfl rfl .nil)) (fun e_ => .inl ⟨rfl, V1.t (V1.move' z_C) ⟨rfl, rfl⟩⟩) ?_
        refine Det.cons 6 (ins := [(8, _), (42, _)]) (.old z_C (by decide +kernel) (.new 2 3 (by decide +kernel) rfl rfl .nil)) (fun e_ => .inl ⟨rfl, V1.t (V1.move' z_C) ⟨rfl, rfl⟩⟩) ?_
        refine Det.cons 7 (ins := [(42, _), (46, _)]) (.new 2 4 (by decide +kernel) rfl rfl (.new 6 0 (by decide +kernel) rfl rfl .nil)) (fun e_ => .inl ⟨rfl, V1.t (V1.sub (c := ((i - 1 : Nat) : Int)) rfl rfl (by rw [wrap_i64 _ (by omega) (by omega)]; omega)) ⟨rfl, rfl⟩⟩) ?_
        refine Det.cons 8 (ins := [(42, _), (45, _), (47, _)]) (.new 2 5 (by decide +kernel) rfl rfl (.new 5 2 (by decide +kernel) rfl rfl (.new 7 0 (by decide +kernel) rfl rfl .nil))) (fun e_ => .inl ⟨rfl, V1.t (V1.indexAddrS ty_43 sz_55 rfl rfl (by omega) (by omega)) ⟨rfl, rfl⟩⟩) ?_
        refine Det.cons 9 (ins := [(42, _), (48, _)]) (.new 2 6 (by decide +kernel) rfl rfl (.new 8 0 (by decide +kernel) rfl rfl .nil)) (fun e_ => .inl ⟨rfl, V1.t (V1.fieldAddr fl_55_1 rfl) ⟨rfl, rfl⟩⟩) ?_
        refine Det.cons 10 (ins := [(42, _), (49, _)]) (.new 2 7 (by decide +kernel) rfl rfl (.new 9 0 (by decide +kernel) rfl rfl .nil)) (fun e_ => .inl ⟨rfl, V1.t (V1.load1 (v := iV ep0) one_3 rfl (tdC_rd (xs := [iV wh0, iV ep0, .slice a0 nms0.length c0, .int .i64 1, .string (bstr (nmb sText [num0])), .slice none 0 0]) hA hy0 rfl (hrd _ rfl rfl _ z_G) 1 _ rfl)) ⟨rfl, rfl⟩⟩) ?_
        refine Det.cons 11 (ins := [(42, _), (44, _), (50, _)]) (.new 2 8 (by decide +kernel) rfl rfl (.new 4 6 (by decide +kernel) rfl rfl (.new 10 0 (by decide +kernel) rfl rfl .nil))) (fun e_ => .inl ⟨rfl, V1.t (V1.ltI (r := false) rfl rfl (decide_eq_false (by omega))) ⟨rfl, rfl⟩⟩) ?_
        refine Det.cons 12 (ins := [(42, _), (51, _)]) (.new 2 9 (by decide +kernel) rfl rfl (.new 11 0 (by decide +kernel) rfl rfl .nil)) (fun e_ => .inl ⟨rfl, V1.t (V1.pick rfl z_C) ⟨rfl, rfl⟩⟩) ?_
        refine Det.cons 13 (ins := [(52, _)]) (.new 12 0 (by decide +kernel) rfl rfl .nil) (fun e_ => .inl ⟨rfl, V1.t (V1.move' z_C) ⟨rfl, rfl⟩⟩) ?_
        refine Det.cons 14 (ins := [(9, _), (53, _)]) (.old z_C (by decide +kernel) (.new 13 0 (by decide +kernel) rfl rfl .nil)) (fun e_ => .inl ⟨rfl, V1.t (V1.fieldAddr fl_55_1 rfl) ⟨rfl, rfl⟩⟩) ?_
        refine Det.cons 15 (ins := [(53, _), (54, _)]) (.new 13 1 (by decide +kernel) rfl rfl (.new 14 0 (by decide +kernel) rfl rfl .nil)) (fun e_ => .inl ⟨rfl, V1.t (V1.load1 (v := iV ep) one_3 rfl (rd_at (off := 0) (i := 1) (cs := [iV wh, iV ep, .slice (some ⟨b2_, o2_, none⟩) nms.length c1, .int .i64 1, .string (bstr (nmb sText [i + 1])), .slice none 0 0]) z_F rfl)) ⟨rfl, rfl⟩⟩) ?_
        refine Det.cons 16 (ins := [(53, _), (55, _)]) (.new 13 2 (by decide +kernel) rfl rfl (.new 15 0 (by decide +kernel) rfl rfl .nil)) (fun e_ => .inl ⟨rfl, V1.t (V1.ltI (r := false) rfl rfl (decide_eq_false (by omega))) ⟨rfl, rfl⟩⟩) ?_
        refine Det.cons 17 (ins := [(53, _), (56, _)]) (.new 13 3 (by decide +kernel) rfl rfl (.new 16 0 (by decide +kernel) rfl rfl .nil)) (fun e_ => .inl ⟨rfl, V1.t (V1.pick rfl z_C) ⟨rfl, rfl⟩⟩) ?_
        refine Det.cons 18 (ins := [(57, _)]) (.new 17 0 (by decide +kernel) rfl rfl .nil) (fun e_ => .inl ⟨rfl, V1.t (V1.move' z_C) ⟨rfl, rfl⟩⟩) ?_
        refine Det.cons 19 (ins := [(7, _), (58, _)]) (.old z_C (by decide +kernel) (.new 18 0 (by decide +kernel) rfl rfl .nil)) (fun e_ => .inl ⟨rfl, V1.t (V1.move' z_C) ⟨rfl, rfl⟩⟩) ?_
        refine Det.cons 20 (ins := [(9, _), (58, _)]) (.old z_C (by decide +kernel) (.new 18 1 (by decide +kernel) rfl rfl .nil)) (fun e_ => .inl ⟨rfl, V1.t (V1.fieldAddr fl_55_3 rfl) ⟨rfl, rfl⟩⟩) ?_
        refine Det.cons 21 (ins := [(58, _), (60, _)]) (.new 18 2 (by decide +kernel) rfl rfl (.new 20 0 (by decide +kernel) rfl rfl .nil)) (fun e_ => .inl ⟨rfl, V1.t (V1.loadN (vs := [.int .i64 1, .string (bstr (nmb sText [i + 1])), .slice none 0 0]) one_24 sz_24 rfl (RdN.mid2 (pre := [iV wh, iV ep, .slice (some ⟨b2_, o2_, none⟩) nms.length c1]) (cs := [.int .i64 1, .string (bstr (nmb sText [i + 1])), .slice none 0 0]) (post := []) z_F rfl) rfl) ⟨rfl, rfl⟩⟩) ?_
        refine Det.cons 22 (ins := [(58, _), (61, _)]) (v := keyT (i + 1)) (.new 18 3 (by decide +kernel) rfl rfl (.new 21 0 (by decide +kernel) rfl rfl .nil)) (fun e_ => .inl ⟨rfl, ?_⟩) ?_
        · refine T1.callV has_14 rfl rfl (TString_text w0 (i + 1) (by omega)) z_G (fun v_ hv => ?_)
          obtain rfl := hv
          exact ⟨rfl, rfl⟩
        refine Det.cons 23 (ins := [(58, _), (59, _), (62, _)]) (.new 18 4 (by decide +kernel) rfl rfl (.new 19 3 (by decide +kernel) rfl rfl (.new 22 0 (by decide +kernel) rfl rfl .nil))) (fun e_ => .inl ⟨rfl, V1.t (V1.lookup (q := qS (keyT (i + 1))) (kv := kvT i) (v := .bool false) ty_69 zr_4 ty_9 rfl rfl rfl z_F (kv_now _ _) (kv_find (by omega))) ⟨rfl, rfl⟩⟩) ?_
        refine Det.cons 24 (ins := [(58, _), (63, _)]) (.new 18 5 (by decide +kernel) rfl rfl (.new 23 0 (by decide +kernel) rfl rfl .nil)) (fun e_ => .inl ⟨rfl, V1.t (V1.pick rfl z_C) ⟨rfl, rfl⟩⟩) ?_
        refine Det.nil 25 (l := [(0, _), (3, _), (4, _), (7, _), (9, _), (33, _), (34, _), (35, _), (64, _)]) (.old z_C (by decide +kernel) (.old z_C (by decide +kernel) (.old z_C (by decide +kernel) (.old z_C (by decide +kernel) (.old z_C (by decide +kernel) (.old z_C (by decide +kernel) (.old z_C (by decide +kernel) (.old z_C (by decide +kernel) (.new 24 0 (by decide +kernel) rfl rfl .nil))))))))) (fun e_ => ?_)
        refine T.cond_f rfl ?_
        refine T.skip ?_
        refine T.seq ?_
        refine T.region ?_
        refine TL.cons rfl (V1.t (V1.move' z_C) ?_)
        refine TL.cons rfl (V1.t (V1.fieldAddr fl_55_3 rfl) ?_)
        refine TL.cons rfl (V1.t (V1.loadN (vs := [.int .i64 1, .string (bstr (nmb sText [i + 1])), .slice none 0 0]) one_24 sz_24 rfl (RdN.mid2 (pre := [iV wh, iV ep, .slice (some ⟨b2_, o2_, none⟩) nms.length c1]) (cs := [.int .i64 1, .string (bstr (nmb sText [i + 1])), .slice none 0 0]) (post := []) z_F rfl) rfl) ?_)
        refine TL.cons rfl (T1.callV has_14 rfl rfl (TString_text w0 (i + 1) (by omega)) z_G (fun v_ hv => ?_))
        obtain rfl := hv
        refine TL.cons rfl (T1.mapUpdate (q := qS (keyT (i + 1))) (kv' := kvT (i + 1)) ty_69 ty_9 rfl rfl rfl rfl (kv_now _ _) (kv_bits (by omega)) (kv_upd (by omega)) z_I ?_)
        refine TL.nil ?_
        refine T.seq ?_
        refine T.region ?_
        refine TL.cons rfl (V1.t (V1.assign' z_C) ?_)
        refine TL.nil ?_
        refine T.seq ?_
        refine T.seq ?_
        refine T.region ?_
        refine TL.cons rfl (V1.t (V1.fieldAddr fl_55_2 rfl) ?_)
        refine TL.cons rfl (V1.t (V1.load1 (v := .slice (some ⟨b2_, o2_, none⟩) nms.length c1) one_44 rfl (rd_at (off := 0) (i := 2) (cs := [iV wh, iV ep, .slice (some ⟨b2_, o2_, none⟩) nms.length c1, .int .i64 1, .string (bstr (nmb sText [i + 1])), .slice none 0 0]) z_F rfl)) ?_)
        refine TL.cons rfl (V1.t (V1.lenSl ty_44 rfl) ?_)
        refine TL.cons rfl (V1.t (V1.move' z_C) ?_)
        refine TL.nil ?_
        refine T.block ?_
        refine T.loopL (σ := Nat × Bool) (l0 := [(0, _), (3, _), (4, _), (7, _), (9, _), (33, _), (34, _), (35, _), (70, _), (71, _)]) (fun x => [(72, .int .i64 (x.1 : Nat)), (10, .bool x.2)]) (fun x L => L = (⟨b9, 0, [iV wh, iV ep, .slice (some ⟨b2_, o2_, none⟩) nms.length c1, .int .i64 1, .string (bstr (nmb sText [i + 1])), .slice none 0 0], 6⟩ : Blk) :: (MB b32 (kvT (i + 1)) : Blk) :: (Lt ++ (Lk ++ (Lb ++ (Q ++ G)))) ∧ x.1 ≤ nms.length ∧ x.2 = decide (wh ∈ nms.take x.1)) (fun x => nms.length - x.1) (0, false) (.cons rfl (.cons rfl .nil)) (.cons z_C (.cons z_C (.cons z_C (.cons z_C (.cons z_C (.cons z_C (.cons z_C (.cons z_C (.cons z_C (.cons z_C .nil)))))))))) z_A (⟨rfl, Nat.zero_le _, by simp⟩) ?_
        rintro ⟨k, r⟩ e_ L ⟨rfl, hk_, hr_⟩
        simp only at hk_ hr_
        dsimp only
        refine T.seq ?_
        refine T.region ?_
        refine TL.cons rfl (T1.ltI_split rfl rfl (fun h15 => ?_) (fun h15 => ?_))
        ·
          obtain ⟨n, hn0⟩ : ∃ n, nms[k]? = some n := ⟨_, List.getElem?_eq_getElem (by omega)⟩
          have hn16 := h16 n (List.mem_of_getElem? hn0)
          refine TL.nil ?_
          refine T.seq ?_
          refine T.cond_t rfl ?_
          refine T.skip ?_
          refine T.seq ?_
          refine T.block ?_
          refine T.seq ?_
          refine T.region ?_
          refine TL.cons rfl (V1.t (V1.move' z_C) ?_)
          refine TL.cons rfl (V1.t (V1.indexAddrS ty_44 sz_3 rfl rfl (by omega) (by omega)) ?_)
          refine TL.cons rfl (V1.t (V1.load1 (v := iV n) one_3 rfl (show Rd _ _ ⟨_, _ + k * 1, none⟩ _ from by rw [Nat.mul_one]; exact hrd2 _ rfl rfl _ z_G k _ (by rw [List.getElem?_map, hn0]; rfl))) ?_)
          refine TL.cons rfl (V1.t (V1.assign' z_C) ?_)
          refine TL.cons rfl (V1.t (V1.assign' z_C) ?_)
          refine TL.nil ?_
          refine T.seq ?_
          obtain hcc | hcc | hcc : r = true ∨ (r = false ∧ n = wh) ∨ (r = false ∧ n ≠ wh) := by cases r <;> simp [Classical.em]
          ·
            subst hcc
            refine T.region ?_
            refine TL.cons rfl (V1.t (V1.move' z_C) ?_)
            refine TL.cons rfl (V1.t (V1.move' z_C) ?_)
            refine TL.no rfl ?_
            refine TL.no rfl ?_
            refine TL.no rfl ?_
            refine TL.no rfl ?_
            refine TL.cons rfl (V1.t (V1.pick rfl z_C) ?_)
            refine TL.cons rfl (V1.t (V1.assign' z_C) ?_)
            refine TL.nil ?_
            refine T.seq ?_
            rcases Nat.eq_zero_or_pos k with hk0 | hk0
            ·
              refine T.region ?_
              refine TL.cons rfl (V1.t (V1.move' z_C) ?_)
              refine TL.cons rfl (V1.t (V1.gtI (r := false) rfl rfl (decide_eq_false (by omega))) ?_)
              refine TL.cons rfl (V1.t (V1.move' z_C) ?_)
              refine TL.no rfl ?_
              refine TL.no rfl ?_
              refine TL.no rfl ?_
              refine TL.no rfl ?_
              refine TL.no rfl ?_
              refine TL.no rfl ?_
              refine TL.no rfl ?_
              refine TL.no rfl ?_
              refine TL.cons rfl (V1.t (V1.pick rfl z_C) ?_)
              refine TL.cons rfl (V1.t (V1.move' z_C) ?_)
              refine TL.cons rfl (V1.t (V1.move' z_C) ?_)
              refine TL.cons rfl (V1.t (V1.ltI (r := false) rfl rfl (decide_eq_false (by omega))) ?_)
              refine TL.cons rfl (V1.t (V1.pick rfl z_C) ?_)
              refine TL.cons rfl (V1.t (V1.move' z_C) ?_)
              refine TL.cons rfl (V1.t (V1.move' z_C) ?_)
              refine TL.cons rfl (V1.t (V1.gtI (r := false) rfl rfl (decide_eq_false (by omega))) ?_)
              refine TL.cons rfl (V1.t (V1.pick rfl z_C) ?_)
              refine TL.nil ?_
              refine T.cond_f rfl ?_
              refine T.skip ?_
              refine T.live (l := [(0, _), (3, _), (4, _), (7, _), (9, _), (10, _), (33, _), (34, _), (35, _), (70, _), (71, _), (72, _)]) (.cons z_C (.cons z_C (.cons z_C (.cons z_C (.cons z_C (.cons z_C (.cons z_C (.cons z_C (.cons z_C (.cons z_C (.cons z_C (.cons z_C .nil)))))))))))) (fun e_ => ?_)
              refine T.region ?_
              refine TL.cons rfl (V1.t (V1.add (c := ((k + 1 : Nat) : Int)) rfl rfl (by rw [wrap_i64 _ (by omega) (by omega)]; omega)) ?_)
              refine TL.cons rfl (V1.t (V1.move' z_C) ?_)
              refine TL.nil ?_
              exact ⟨(k + 1, true), (⟨b9, 0, [iV wh, iV ep, .slice (some ⟨b2_, o2_, none⟩) nms.length c1, .int .i64 1, .string (bstr (nmb sText [i + 1])), .slice none 0 0], 6⟩ : Blk) :: (MB b32 (kvT (i + 1)) : Blk) :: (Lt ++ (Lk ++ (Lb ++ (Q ++ G)))), _, (by simp only; omega), (.cons rfl (.cons rfl .nil)), (.cons rfl (.cons rfl (.cons rfl (.cons rfl (.cons rfl (.cons rfl (.cons rfl (.cons rfl (.cons rfl (.cons rfl .nil)))))))))), z_A, ⟨rfl, by simp only; omega, by simp only; rw [tk_in hn0, ← hr_]; rfl⟩⟩
            ·
              obtain ⟨n0, hn00, hn0l⟩ := prev_lt hasc hn0 hk0
              refine T.region ?_
              refine TL.cons rfl (V1.t (V1.move' z_C) ?_)
              refine TL.cons rfl (V1.t (V1.gtI (r := true) rfl rfl (decide_eq_true (by omega))) ?_)
              refine TL.cons rfl (V1.t (V1.move' z_C) ?_)
              refine TL.cons rfl (V1.t (V1.fieldAddr fl_55_2 rfl) ?_)
              refine TL.cons rfl (V1.t (V1.load1 (v := .slice (some ⟨b2_, o2_, none⟩) nms.length c1) one_44 rfl (rd_at (off := 0) (i := 2) (cs := [iV wh, iV ep, .slice (some ⟨b2_, o2_, none⟩) nms.length c1, .int .i64 1, .string (bstr (nmb sText [i + 1])), .slice none 0 0]) z_F rfl)) ?_)
              refine TL.cons rfl (V1.t (V1.move' z_C) ?_)
              refine TL.cons rfl (V1.t (V1.sub (c := ((k - 1 : Nat) : Int)) rfl rfl (by rw [wrap_i64 _ (by omega) (by omega)]; omega)) ?_)
              refine TL.cons rfl (V1.t (V1.indexAddrS ty_44 sz_3 rfl rfl (by omega) (by omega)) ?_)
              refine TL.cons rfl (V1.t (V1.load1 (v := iV n0) one_3 rfl (show Rd _ _ ⟨_, _ + (k - 1) * 1, none⟩ _ from by rw [Nat.mul_one]; exact hrd2 _ rfl rfl _ z_G (k - 1) _ (by rw [List.getElem?_map, hn00]; rfl))) ?_)
              refine TL.cons rfl (V1.t (V1.move' z_C) ?_)
              refine TL.cons rfl (V1.t (V1.geI (r := false) rfl rfl (decide_eq_false (by omega))) ?_)
              refine TL.cons rfl (V1.t (V1.pick rfl z_C) ?_)
              refine TL.cons rfl (V1.t (V1.move' z_C) ?_)
              refine TL.cons rfl (V1.t (V1.move' z_C) ?_)
              refine TL.cons rfl (V1.t (V1.ltI (r := false) rfl rfl (decide_eq_false (by omega))) ?_)
              refine TL.cons rfl (V1.t (V1.pick rfl z_C) ?_)
              refine TL.cons rfl (V1.t (V1.move' z_C) ?_)
              refine TL.cons rfl (V1.t (V1.move' z_C) ?_)
              refine TL.cons rfl (V1.t (V1.gtI (r := false) rfl rfl (decide_eq_false (by omega))) ?_)
              refine TL.cons rfl (V1.t (V1.pick rfl z_C) ?_)
              refine TL.nil ?_
              refine T.cond_f rfl ?_
              refine T.skip ?_
              refine T.live (l := [(0, _), (3, _), (4, _), (7, _), (9, _), (10, _), (33, _), (34, _), (35, _), (70, _), (71, _), (72, _)]) (.cons z_C (.cons z_C (.cons z_C (.cons z_C (.cons z_C (.cons z_C (.cons z_C (.cons z_C (.cons z_C (.cons z_C (.cons z_C (.cons z_C .nil)))))))))))) (fun e_ => ?_)
              refine T.region ?_
              refine TL.cons rfl (V1.t (V1.add (c := ((k + 1 : Nat) : Int)) rfl rfl (by rw [wrap_i64 _ (by omega) (by omega)]; omega)) ?_)
              refine TL.cons rfl (V1.t (V1.move' z_C) ?_)
              refine TL.nil ?_
              exact ⟨(k + 1, true), (⟨b9, 0, [iV wh, iV ep, .slice (some ⟨b2_, o2_, none⟩) nms.length c1, .int .i64 1, .string (bstr (nmb sText [i + 1])), .slice none 0 0], 6⟩ : Blk) :: (MB b32 (kvT (i + 1)) : Blk) :: (Lt ++ (Lk ++ (Lb ++ (Q ++ G)))), _, (by simp only; omega), (.cons rfl (.cons rfl .nil)), (.cons rfl (.cons rfl (.cons rfl (.cons rfl (.cons rfl (.cons rfl (.cons rfl (.cons rfl (.cons rfl (.cons rfl .nil)))))))))), z_A, ⟨rfl, by simp only; omega, by simp only; rw [tk_in hn0, ← hr_]; rfl⟩⟩
          ·
            obtain ⟨rfl, hcc⟩ := hcc
            refine T.region ?_
            refine TL.cons rfl (V1.t (V1.move' z_C) ?_)
            refine TL.cons rfl (V1.t (V1.move' z_C) ?_)
            refine TL.cons rfl (V1.t (V1.move' z_C) ?_)
            refine TL.cons rfl (V1.t (V1.fieldAddr fl_55_0 rfl) ?_)
            refine TL.cons rfl (V1.t (V1.load1 (v := iV wh) one_3 rfl (rd_at (off := 0) (i := 0) (cs := [iV wh, iV ep, .slice (some ⟨b2_, o2_, none⟩) nms.length c1, .int .i64 1, .string (bstr (nmb sText [i + 1])), .slice none 0 0]) z_F rfl)) ?_)
            refine TL.cons rfl (V1.t (V1.eqI (r := true) rfl rfl (decide_eq_true (by omega))) ?_)
            refine TL.cons rfl (V1.t (V1.pick rfl z_C) ?_)
            refine TL.cons rfl (V1.t (V1.assign' z_C) ?_)
            refine TL.nil ?_
            refine T.seq ?_
            rcases Nat.eq_zero_or_pos k with hk0 | hk0
            ·
              refine T.region ?_
              refine TL.cons rfl (V1.t (V1.move' z_C) ?_)
              refine TL.cons rfl (V1.t (V1.gtI (r := false) rfl rfl (decide_eq_false (by omega))) ?_)
              refine TL.cons rfl (V1.t (V1.move' z_C) ?_)
              refine TL.no rfl ?_
              refine TL.no rfl ?_
              refine TL.no rfl ?_
              refine TL.no rfl ?_
              refine TL.no rfl ?_
              refine TL.no rfl ?_
              refine TL.no rfl ?_
              refine TL.no rfl ?_
              refine TL.cons rfl (V1.t (V1.pick rfl z_C) ?_)
              refine TL.cons rfl (V1.t (V1.move' z_C) ?_)
              refine TL.cons rfl (V1.t (V1.move' z_C) ?_)
              refine TL.cons rfl (V1.t (V1.ltI (r := false) rfl rfl (decide_eq_false (by omega))) ?_)
              refine TL.cons rfl (V1.t (V1.pick rfl z_C) ?_)
              refine TL.cons rfl (V1.t (V1.move' z_C) ?_)
              refine TL.cons rfl (V1.t (V1.move' z_C) ?_)
              refine TL.cons rfl (V1.t (V1.gtI (r := false) rfl rfl (decide_eq_false (by omega))) ?_)
              refine TL.cons rfl (V1.t (V1.pick rfl z_C) ?_)
              refine TL.nil ?_
              refine T.cond_f rfl ?_
              refine T.skip ?_
              refine T.live (l := [(0, _), (3, _), (4, _), (7, _), (9, _), (10, _), (33, _), (34, _), (35, _), (70, _), (71, _), (72, _)]) (.cons z_C (.cons z_C (.cons z_C (.cons z_C (.cons z_C (.cons z_C (.cons z_C (.cons z_C (.cons z_C (.cons z_C (.cons z_C (.cons z_C .nil)))))))))))) (fun e_ => ?_)
              refine T.region ?_
              refine TL.cons rfl (V1.t (V1.add (c := ((k + 1 : Nat) : Int)) rfl rfl (by rw [wrap_i64 _ (by omega) (by omega)]; omega)) ?_)
              refine TL.cons rfl (V1.t (V1.move' z_C) ?_)
              refine TL.nil ?_
              exact ⟨(k + 1, true), (⟨b9, 0, [iV wh, iV ep, .slice (some ⟨b2_, o2_, none⟩) nms.length c1, .int .i64 1, .string (bstr (nmb sText [i + 1])), .slice none 0 0], 6⟩ : Blk) :: (MB b32 (kvT (i + 1)) : Blk) :: (Lt ++ (Lk ++ (Lb ++ (Q ++ G)))), _, (by simp only; omega), (.cons rfl (.cons rfl .nil)), (.cons rfl (.cons rfl (.cons rfl (.cons rfl (.cons rfl (.cons rfl (.cons rfl (.cons rfl (.cons rfl (.cons rfl .nil)))))))))), z_A, ⟨rfl, by simp only; omega, by simp only; rw [tk_in hn0, ← hr_]; rw [decide_eq_true hcc.symm]; rfl⟩⟩
            ·
              obtain ⟨n0, hn00, hn0l⟩ := prev_lt hasc hn0 hk0
              refine T.region ?_
              refine TL.cons rfl (V1.t (V1.move' z_C) ?_)
              refine TL.cons rfl (V1.t (V1.gtI (r := true) rfl rfl (decide_eq_true (by omega))) ?_)
              refine TL.cons rfl (V1.t (V1.move' z_C) ?_)
              refine TL.cons rfl (V1.t (V1.fieldAddr fl_55_2 rfl) ?_)
              refine TL.cons rfl (V1.t (V1.load1 (v := .slice (some ⟨b2_, o2_, none⟩) nms.length c1) one_44 rfl (rd_at (off := 0) (i := 2) (cs := [iV wh, iV ep, .slice (some ⟨b2_, o2_, none⟩) nms.length c1, .int .i64 1, .string (bstr (nmb sText [i + 1])), .slice none 0 0]) z_F rfl)) ?_)
              refine TL.cons rfl (V1.t (V1.move' z_C) ?_)
              refine TL.cons rfl (V1.t (V1.sub (c := ((k - 1 : Nat) : Int)) rfl rfl (by rw [wrap_i64 _ (by omega) (by omega)]; omega)) ?_)
              refine TL.cons rfl (V1.t (V1.indexAddrS ty_44 sz_3 rfl rfl (by omega) (by omega)) ?_)
              refine TL.cons rfl (V1.t (V1.load1 (v := iV n0) one_3 rfl (show Rd _ _ ⟨_, _ + (k - 1) * 1, none⟩ _ from by rw [Nat.mul_one]; exact hrd2 _ rfl rfl _ z_G (k - 1) _ (by rw [List.getElem?_map, hn00]; rfl))) ?_)
              refine TL.cons rfl (V1.t (V1.move' z_C) ?_)
              refine TL.cons rfl (V1.t (V1.geI (r := false) rfl rfl (decide_eq_false (by omega))) ?_)
              refine TL.cons rfl (V1.t (V1.pick rfl z_C) ?_)
              refine TL.cons rfl (V1.t (V1.move' z_C) ?_)
              refine TL.cons rfl (V1.t (V1.move' z_C) ?_)
              refine TL.cons rfl (V1.t (V1.ltI (r := false) rfl rfl (decide_eq_false (by omega))) ?_)
              refine TL.cons rfl (V1.t (V1.pick rfl z_C) ?_)
              refine TL.cons rfl (V1.t (V1.move' z_C) ?_)
              refine TL.cons rfl (V1.t (V1.move' z_C) ?_)
              refine TL.cons rfl (V1.t (V1.gtI (r := false) rfl rfl (decide_eq_false (by omega))) ?_)
              refine TL.cons rfl (V1.t (V1.pick rfl z_C) ?_)
              refine TL.nil ?_
              refine T.cond_f rfl ?_
              refine T.skip ?_
              refine T.live (l := [(0, _), (3, _), (4, _), (7, _), (9, _), (10, _), (33, _), (34, _), (35, _), (70, _), (71, _), (72, _)]) (.cons z_C (.cons z_C (.cons z_C (.cons z_C (.cons z_C (.cons z_C (.cons z_C (.cons z_C (.cons z_C (.cons z_C (.cons z_C (.cons z_C .nil)))))))))))) (fun e_ => ?_)
              refine T.region ?_
              refine TL.cons rfl (V1.t (V1.add (c := ((k + 1 : Nat) : Int)) rfl rfl (by rw [wrap_i64 _ (by omega) (by omega)]; omega)) ?_)
              refine TL.cons rfl (V1.t (V1.move' z_C) ?_)
              refine TL.nil ?_
              exact ⟨(k + 1, true), (⟨b9, 0, [iV wh, iV ep, .slice (some ⟨b2_, o2_, none⟩) nms.length c1, .int .i64 1, .string (bstr (nmb sText [i + 1])), .slice none 0 0], 6⟩ : Blk) :: (MB b32 (kvT (i + 1)) : Blk) :: (Lt ++ (Lk ++ (Lb ++ (Q ++ G)))), _, (by simp only; omega), (.cons rfl (.cons rfl .nil)), (.cons rfl (.cons rfl (.cons rfl (.cons rfl (.cons rfl (.cons rfl (.cons rfl (.cons rfl (.cons rfl (.cons rfl .nil)))))))))), z_A, ⟨rfl, by simp only; omega, by simp only; rw [tk_in hn0, ← hr_]; rw [decide_eq_true hcc.symm]; rfl⟩⟩
          ·
            obtain ⟨rfl, hcc⟩ := hcc
            refine T.region ?_
            refine TL.cons rfl (V1.t (V1.move' z_C) ?_)
            refine TL.cons rfl (V1.t (V1.move' z_C) ?_)
            refine TL.cons rfl (V1.t (V1.move' z_C) ?_)
            refine TL.cons rfl (V1.t (V1.fieldAddr fl_55_0 rfl) ?_)
            refine TL.cons rfl (V1.t (V1.load1 (v := iV wh) one_3 rfl (rd_at (off := 0) (i := 0) (cs := [iV wh, iV ep, .slice (some ⟨b2_, o2_, none⟩) nms.length c1, .int .i64 1, .string (bstr (nmb sText [i + 1])), .slice none 0 0]) z_F rfl)) ?_)
            refine TL.cons rfl (V1.t (V1.eqI (r := false) rfl rfl (decide_eq_false (by omega))) ?_)
            refine TL.cons rfl (V1.t (V1.pick rfl z_C) ?_)
            refine TL.cons rfl (V1.t (V1.assign' z_C) ?_)
            refine TL.nil ?_
            refine T.seq ?_
            rcases Nat.eq_zero_or_pos k with hk0 | hk0
            ·
              refine T.region ?_
              refine TL.cons rfl (V1.t (V1.move' z_C) ?_)
              refine TL.cons rfl (V1.t (V1.gtI (r := false) rfl rfl (decide_eq_false (by omega))) ?_)
              refine TL.cons rfl (V1.t (V1.move' z_C) ?_)
              refine TL.no rfl ?_
              refine TL.no rfl ?_
              refine TL.no rfl ?_
              refine TL.no rfl ?_
              refine TL.no rfl ?_
              refine TL.no rfl ?_
              refine TL.no rfl ?_
              refine TL.no rfl ?_
              refine TL.cons rfl (V1.t (V1.pick rfl z_C) ?_)
              refine TL.cons rfl (V1.t (V1.move' z_C) ?_)
              refine TL.cons rfl (V1.t (V1.move' z_C) ?_)
              refine TL.cons rfl (V1.t (V1.ltI (r := false) rfl rfl (decide_eq_false (by omega))) ?_)
              refine TL.cons rfl (V1.t (V1.pick rfl z_C) ?_)
              refine TL.cons rfl (V1.t (V1.move' z_C) ?_)
              refine TL.cons rfl (V1.t (V1.move' z_C) ?_)
              refine TL.cons rfl (V1.t (V1.gtI (r := false) rfl rfl (decide_eq_false (by omega))) ?_)
              refine TL.cons rfl (V1.t (V1.pick rfl z_C) ?_)
              refine TL.nil ?_
              refine T.cond_f rfl ?_
              refine T.skip ?_
              refine T.live (l := [(0, _), (3, _), (4, _), (7, _), (9, _), (10, _), (33, _), (34, _), (35, _), (70, _), (71, _), (72, _)]) (.cons z_C (.cons z_C (.cons z_C (.cons z_C (.cons z_C (.cons z_C (.cons z_C (.cons z_C (.cons z_C (.cons z_C (.cons z_C (.cons z_C .nil)))))))))))) (fun e_ => ?_)
              refine T.region ?_
              refine TL.cons rfl (V1.t (V1.add (c := ((k + 1 : Nat) : Int)) rfl rfl (by rw [wrap_i64 _ (by omega) (by omega)]; omega)) ?_)
              refine TL.cons rfl (V1.t (V1.move' z_C) ?_)
              refine TL.nil ?_
              exact ⟨(k + 1, false), (⟨b9, 0, [iV wh, iV ep, .slice (some ⟨b2_, o2_, none⟩) nms.length c1, .int .i64 1, .string (bstr (nmb sText [i + 1])), .slice none 0 0], 6⟩ : Blk) :: (MB b32 (kvT (i + 1)) : Blk) :: (Lt ++ (Lk ++ (Lb ++ (Q ++ G)))), _, (by simp only; omega), (.cons rfl (.cons rfl .nil)), (.cons rfl (.cons rfl (.cons rfl (.cons rfl (.cons rfl (.cons rfl (.cons rfl (.cons rfl (.cons rfl (.cons rfl .nil)))))))))), z_A, ⟨rfl, by simp only; omega, by simp only; rw [tk_in hn0, ← hr_]; rw [decide_eq_false (fun h => hcc h.symm)]; rfl⟩⟩
            ·
              obtain ⟨n0, hn00, hn0l⟩ := prev_lt hasc hn0 hk0
              refine T.region ?_
              refine TL.cons rfl (V1.t (V1.move' z_C) ?_)
              refine TL.cons rfl (V1.t (V1.gtI (r := true) rfl rfl (decide_eq_true (by omega))) ?_)
              refine TL.cons rfl (V1.t (V1.move' z_C) ?_)
              refine TL.cons rfl (V1.t (V1.fieldAddr fl_55_2 rfl) ?_)
              refine TL.cons rfl (V1.t (V1.load1 (v := .slice (some ⟨b2_, o2_, none⟩) nms.length c1) one_44 rfl (rd_at (off := 0) (i := 2) (cs := [iV wh, iV ep, .slice (some ⟨b2_, o2_, none⟩) nms.length c1, .int .i64 1, .string (bstr (nmb sText [i + 1])), .slice none 0 0]) z_F rfl)) ?_)
              refine TL.cons rfl (V1.t (V1.move' z_C) ?_)
              refine TL.cons rfl (V1.t (V1.sub (c := ((k - 1 : Nat) : Int)) rfl rfl (by rw [wrap_i64 _ (by omega) (by omega)]; omega)) ?_)
              refine TL.cons rfl (V1.t (V1.indexAddrS ty_44 sz_3 rfl rfl (by omega) (by omega)) ?_)
              refine TL.cons rfl (V1.t (V1.load1 (v := iV n0) one_3 rfl (show Rd _ _ ⟨_, _ + (k - 1) * 1, none⟩ _ from by rw [Nat.mul_one]; exact hrd2 _ rfl rfl _ z_G (k - 1) _ (by rw [List.getElem?_map, hn00]; rfl))) ?_)
              refine TL.cons rfl (V1.t (V1.move' z_C) ?_)
              refine TL.cons rfl (V1.t (V1.geI (r := false) rfl rfl (decide_eq_false (by omega))) ?_)
              refine TL.cons rfl (V1.t (V1.pick rfl z_C) ?_)
              refine TL.cons rfl (V1.t (V1.move' z_C) ?_)
              refine TL.cons rfl (V1.t (V1.move' z_C) ?_)
              refine TL.cons rfl (V1.t (V1.ltI (r := false) rfl rfl (decide_eq_false (by omega))) ?_)
              refine TL.cons rfl (V1.t (V1.pick rfl z_C) ?_)
              refine TL.cons rfl (V1.t (V1.move' z_C) ?_)
              refine TL.cons rfl (V1.t (V1.move' z_C) ?_)
              refine TL.cons rfl (V1.t (V1.gtI (r := false) rfl rfl (decide_eq_false (by omega))) ?_)
              refine TL.cons rfl (V1.t (V1.pick rfl z_C) ?_)
              refine TL.nil ?_
              refine T.cond_f rfl ?_
              refine T.skip ?_
              refine T.live (l := [(0, _), (3, _), (4, _), (7, _), (9, _), (10, _), (33, _), (34, _), (35, _), (70, _), (71, _), (72, _)]) (.cons z_C (.cons z_C (.cons z_C (.cons z_C (.cons z_C (.cons z_C (.cons z_C (.cons z_C (.cons z_C (.cons z_C (.cons z_C (.cons z_C .nil)))))))))))) (fun e_ => ?_)
              refine T.region ?_
              refine TL.cons rfl (V1.t (V1.add (c := ((k + 1 : Nat) : Int)) rfl rfl (by rw [wrap_i64 _ (by omega) (by omega)]; omega)) ?_)
              refine TL.cons rfl (V1.t (V1.move' z_C) ?_)
              refine TL.nil ?_
              exact ⟨(k + 1, false), (⟨b9, 0, [iV wh, iV ep, .slice (some ⟨b2_, o2_, none⟩) nms.length c1, .int .i64 1, .string (bstr (nmb sText [i + 1])), .slice none 0 0], 6⟩ : Blk) :: (MB b32 (kvT (i + 1)) : Blk) :: (Lt ++ (Lk ++ (Lb ++ (Q ++ G)))), _, (by simp only; omega), (.cons rfl (.cons rfl .nil)), (.cons rfl (.cons rfl (.cons rfl (.cons rfl (.cons rfl (.cons rfl (.cons rfl (.cons rfl (.cons rfl (.cons rfl .nil)))))))))), z_A, ⟨rfl, by simp only; omega, by simp only; rw [tk_in hn0, ← hr_]; rw [decide_eq_false (fun h => hcc h.symm)]; rfl⟩⟩
        ·
          obtain rfl : k = nms.length := by omega
          rw [List.take_length, decide_eq_true hwho] at hr_
          subst hr_
          refine TL.nil ?_
          refine T.seq ?_
          refine T.cond_f rfl ?_
          refine T.exit ?_
          refine T.seq ?_
          refine T.region ?_
          refine TL.cons rfl (V1.t (V1.move' z_C) ?_)
          refine TL.cons rfl (V1.t (V1.not rfl rfl) ?_)
          refine TL.nil ?_
          refine T.cond_f rfl ?_
          refine T.skip ?_
          refine T.region ?_
          refine TL.cons rfl (V1.t (V1.add (c := ((i + 1 : Nat) : Int)) rfl rfl (by rw [wrap_i64 _ (by omega) (by omega)]; omega)) ?_)
          refine TL.cons rfl (V1.t (V1.move' z_C) ?_)
          refine TL.nil ?_
          exact ⟨i + 1, (MB b32 (kvT (i + 1)) : Blk) :: (Lt ++ (Lk ++ (Lb ++ (Q ++ G)))), _, (by simp only; omega), (.cons rfl .nil), (.cons rfl (.cons rfl (.cons rfl (.cons rfl (.cons rfl (.cons rfl .nil)))))), z_A, ⟨rfl, by omega⟩⟩
    ·
      obtain rfl : i = ts.length := by omega
      refine TL.nil ?_
      refine T.seq ?_
      refine T.cond_f rfl ?_
      refine T.exit ?_
      refine T.seq ?_
      refine T.region ?_
      refine TL.cons rfl (V1.t (V1.move' z_C) ?_)
      refine TL.cons rfl (V1.t (V1.lenSl ty_43 rfl) ?_)
      refine TL.cons rfl (V1.t (V1.move' z_C) ?_)
      refine TL.cons rfl (V1.t (V1.lenSl ty_42 rfl) ?_)
      refine TL.cons rfl (V1.t (V1.leI (r := true) rfl rfl (decide_eq_true (by omega))) ?_)
      refine TL.cons rfl (V1.t (V1.move' z_C) ?_)
      refine TL.cons rfl (V1.t (V1.move' z_C) ?_)
      refine TL.cons rfl (V1.t (V1.lenSl ty_22 rfl) ?_)
      refine TL.cons rfl (V1.t (V1.geI (r := true) rfl rfl (decide_eq_true (by omega))) ?_)
      refine TL.cons rfl (V1.t (V1.pick rfl z_C) ?_)
      refine TL.cons rfl (V1.t (V1.assign' z_C) ?_)
      refine TL.nil ?_
      refine T.ret ?_
      exact ⟨_, G, _, .cons (.tmp z_C) .nil, z_A, rfl, rfl⟩
  ·
    rw [decide_eq_true hc0]
    have hO := sgOut_err hc0
    have hz1 : ts.length = 0 := by rw [hlt, hO]; rfl
    have hz2 : (sgOut es).known.length = 0 := by rw [hO]; rfl
    refine TL.nil ?_
    refine T.cond_t rfl ?_
    refine T.seq ?_
    refine T.live (l := [(3, _), (4, _)]) (.cons z_C (.cons z_C .nil)) (fun e_ => ?_)
    refine T.region ?_
    refine TL.cons rfl (V1.t (V1.move' z_C) ?_)
    refine TL.cons rfl (V1.t (V1.lenSl ty_43 rfl) ?_)
    refine TL.cons rfl (V1.t (V1.eqI (r := true) rfl rfl (decide_eq_true (by omega))) ?_)
    refine TL.cons rfl (V1.t (V1.move' z_C) ?_)
    refine TL.cons rfl (V1.t (V1.move' z_C) ?_)
    refine TL.cons rfl (V1.t (V1.lenSl ty_22 rfl) ?_)
    refine TL.cons rfl (V1.t (V1.eqI (r := true) rfl rfl (decide_eq_true (by omega))) ?_)
    refine TL.cons rfl (V1.t (V1.pick rfl z_C) ?_)
    refine TL.cons rfl (V1.t (V1.assign' z_C) ?_)
    refine TL.nil ?_
    refine T.ret ?_
    exact ⟨_, G, _, .cons (.tmp z_C) .nil, z_A, rfl, rfl⟩

end Go.Proofs.YtlpkcbkflfbclaaGreatDoor.S
