/- What events tell: the document's answer. -/
import Derived.Test.YtlpkcbkflfbclaaGreatDoorG16
import Derived.Test.YtlpkcbkflfbclaaGreatDoorG10
namespace Go.Proofs.YtlpkcbkflfbclaaGreatDoor.S
open Go.RowKit

theorem keys_step (s : Sg) (k w : Int) : (s.step k w).2.keys.length ≤ s.keys.length + 1 := by
  unfold Sg.step
  repeat' split
  all_goals first | exact Nat.le_succ _ | (simp [Sg.turn, Sg.say]; done) | (simp only [Sg.lay]; split <;> simp)
theorem keys_low {m : Nat} {s : Sg} (h : SgInv m s) (hm : m ≤ 24) : ∀ k ∈ s.keys, k.2 < 1000 := by
  intro k hk
  obtain ⟨_, _, ns, h1, _⟩ := h.ky k hk
  have := (List.getElem?_eq_some_iff.1 h1).1
  have := h.hl
  have := h.ep
  omega
/-- Who belongs to it next. -/
def nxP (s : Sg) (w : Nat) (a : Bool) (n : Nat) : Bool := decide ((n ∈ s.names ∧ n ≠ w) ∨ (a = true ∧ n = w))
def nx (s : Sg) (w : Nat) (a : Bool) (i : Nat) : List Nat := (([1, 2, 3, 4, 5, 6] : List Nat).take i).filter (nxP s w a)
theorem nx_step {s : Sg} {w : Nat} {a : Bool} {i : Nat} (hi : i < 6) : nx s w a (i + 1) = nx s w a i ++ if nxP s w a (i + 1) then [i + 1] else [] := by
  unfold nx
  have h6 : ([1, 2, 3, 4, 5, 6] : List Nat)[i]? = some (i + 1) := by
    have : i = 0 ∨ i = 1 ∨ i = 2 ∨ i = 3 ∨ i = 4 ∨ i = 5 := by omega
    rcases this with rfl | rfl | rfl | rfl | rfl | rfl <;> rfl
  rw [take_nat h6, List.filter_append]
  congr 1
  cases h : nxP s w a (i + 1) <;> simp [h]
theorem nx_t {s : Sg} {w i : Nat} {a : Bool} (hi : i < 6) (h : (i + 1 ∈ s.names ∧ i + 1 ≠ w) ∨ (a = true ∧ i + 1 = w)) : nx s w a (i + 1) = nx s w a i ++ [i + 1] := by rw [nx_step hi, if_pos (show nxP s w a (i + 1) = true from decide_eq_true h)]
theorem nx_f {s : Sg} {w i : Nat} {a : Bool} (hi : i < 6) (h : ¬ ((i + 1 ∈ s.names ∧ i + 1 ≠ w) ∨ (a = true ∧ i + 1 = w))) : nx s w a (i + 1) = nx s w a i := by rw [nx_step hi, if_neg (by unfold nxP; rw [decide_eq_false h]; decide), List.append_nil]
theorem nx_len {s : Sg} {w : Nat} {a : Bool} {i : Nat} : (nx s w a i).length ≤ 6 := by
  unfold nx
  refine Nat.le_trans (List.length_filter_le _ _) ?_
  rw [List.length_take]; exact Nat.min_le_right _ _
theorem nx_asc (s : Sg) (w : Nat) (a : Bool) (i : Nat) : (nx s w a i).Pairwise (· < ·) := by
  unfold nx
  exact List.Pairwise.sublist (List.filter_sublist.trans (List.take_sublist _ _)) (by decide)
theorem nx_add {m : Nat} {s : Sg} {w : Nat} (h : SgInv m s) (hw : 1 ≤ w ∧ w ≤ 6) (hn : w ∉ s.names) : nx s w true 6 = addN s.names w :=
  asc_eq (nx_asc s w true 6) (addN_asc _ _) fun x => by
    rw [addN_mem (nm_ok h).2 hw]
    unfold nx nxP
    rw [List.take_of_length_le (by simp), List.mem_filter, decide_eq_true_iff]
    constructor
    · rintro ⟨_, ⟨h1, _⟩ | ⟨_, h1⟩⟩
      · exact .inl h1
      · exact .inr h1
    · rintro (h1 | rfl)
      · exact ⟨six_mem ((nm_ok h).2 x h1), .inl ⟨h1, fun e => hn (e ▸ h1)⟩⟩
      · exact ⟨six_mem hw, .inr ⟨rfl, rfl⟩⟩
theorem nx_del {m : Nat} {s : Sg} {w : Nat} (h : SgInv m s) : nx s w false 6 = delN s.names w :=
  asc_eq (nx_asc s w false 6) (delN_asc (nm_ok h).1) fun x => by
    rw [delN_mem]
    unfold nx nxP
    rw [List.take_of_length_le (by simp), List.mem_filter, decide_eq_true_iff]
    constructor
    · rintro ⟨_, h1 | ⟨h1, _⟩⟩
      · exact h1
      · cases h1
    · intro h1; exact ⟨six_mem ((nm_ok h).2 x h1.1), .inl h1⟩
/-- What is told, the secrets of the first some being written. -/
def curX (s : Sg) (xs : List TdX) (j : Nat) : List TdX := (xs.take j).map (finX s) ++ xs.drop j
theorem curX_len (s : Sg) (xs : List TdX) (j : Nat) : (curX s xs j).length = xs.length := by unfold curX; rw [List.length_append, List.length_map, ← List.length_append, List.take_append_drop]
theorem curX_split {s : Sg} {xs : List TdX} {j : Nat} {e : TdX} (h : xs[j]? = some e) : curX s xs j = (xs.take j).map (finX s) ++ e :: xs.drop (j + 1) ∧ ((xs.take j).map (finX s)).length = j := by
  obtain ⟨h1, h2⟩ := List.getElem?_eq_some_iff.1 h
  refine ⟨by unfold curX; rw [List.drop_eq_getElem_cons h1, h2], by rw [List.length_map, List.length_take]; omega⟩
theorem curX_at {s : Sg} {xs : List TdX} {j : Nat} {e : TdX} (h : xs[j]? = some e) : (curX s xs j)[j]? = some e := by
  obtain ⟨h1, h2⟩ := curX_split (s := s) h
  rw [h1, List.getElem?_append_right (by omega), h2, Nat.sub_self]; rfl
theorem curX_set {s : Sg} {xs : List TdX} {j : Nat} {e : TdX} (h : xs[j]? = some e) : (tdX (curX s xs j)).set (j * 5 + 4) (.bool (!e.t.open s)) = tdX (curX s xs (j + 1)) := by
  obtain ⟨h1, h2⟩ := curX_split (s := s) h
  have h3 := tdX_set (A := (xs.take j).map (finX s)) (B := xs.drop (j + 1)) (e := e) (!e.t.open s)
  rw [h2] at h3
  rw [h1, h3]
  unfold curX
  rw [show xs.take (j + 1) = xs.take j ++ [e] from by rw [List.take_add_one, h]; rfl, List.map_append, List.append_assoc]
  rfl
theorem curX_end {s : Sg} {xs : List TdX} : curX s xs xs.length = xs.map (finX s) := by unfold curX; rw [List.take_length, List.drop_length, List.append_nil]
theorem curX_0 {s : Sg} {xs : List TdX} : curX s xs 0 = xs := by unfold curX; rfl
theorem fin_told {s : Sg} {xs : List TdX} {l : List Td} (h : xs.map TdX.t = l) : (xs.map (finX s)).map (fun e => (e.t, e.sec)) = l.map fun t => (t, !t.open s) := by subst h; rw [List.map_map, List.map_map]; rfl
theorem fin_A {w0 : World} {Ps : List Blk} {s : Sg} {xs : List TdX} (h : TdXA w0 Ps xs) : TdXA w0 Ps (xs.map (finX s)) := fun e he => by obtain ⟨x, hx, rfl⟩ := List.mem_map.1 he; exact h x hx
theorem tellsR {s : Sg} {m i : Nat} {t : Td} (h : SgInv m s) (ht : s.told[i]? = some t) : t.num = i + 1 ∧ 1 ≤ t.epoch ∧ t.who ∈ t.names ∧ t.names.Pairwise (· < ·) ∧ (∀ n ∈ t.names, 1 ≤ n ∧ n ≤ 6) ∧ t.names.length ≤ 6 := by
  obtain ⟨h1, h2, h3, h4⟩ := h.td i t ht
  obtain ⟨h5, h6⟩ := h.hs _ (List.mem_of_getElem? h3)
  exact ⟨h1, h2, h4, h5, h6, asc_len h5 h6⟩
/-- The document's state in memory. -/
def RunP (w0 : World) (s : Sg) (vt vk vn vb vy : Value) (G L : List Blk) : Prop :=
  ∃ Lt Lk Lb Ly Q xs, L = Lt ++ (Lk ++ (Lb ++ (Ly ++ (Q ++ G)))) ∧ Sl vt (tdX xs) 5 Lt ∧ xs.map TdX.t = s.told ∧ TdXA w0 Q xs ∧ Sl vk (s.known.map kV) 1 Lk ∧ RowR w0 Q 1 vn s.names.length (s.names.map iV) ∧ Sl vb (s.bare.map iV) 1 Lb ∧ Sl vy ((s.keys.map kN).map iV) 1 Ly
theorem txt_pub2 (n : Nat) : ([94, 40, 111, 119, 110] ++ dgN n) ++ [120, 41] = txt (pub (ownT n)) := by rw [txt_pub]; simp [nmb, sOwn]
theorem txt_own2 (n : Nat) : ([111, 119, 110] ++ dgN n) ++ [120] = txt (ownT n) := by rw [txt_own]; exact nmb1 _ _
theorem txt_text2 (n : Nat) : ([116, 101, 120, 116] ++ dgN n) ++ [120] = nmb sText [n] := nmb1 _ _
theorem txt_index2 (n : Nat) : ([105, 110, 100, 101, 120] ++ dgN n) ++ [120] = txt (indexT n) := by rw [show txt (indexT n) = nmb sIndex [n] by simp [indexT, txt]]; exact nmb1 _ _
theorem kV_link (n e : Nat) : kV (linkT n e) = .string (bstr (nmb sLink [n, e])) := by unfold kV; rw [show txt (linkT n e) = nmb sLink [n, e] by simp [linkT, txt]]
theorem txt_msg2 (w e i : Nat) : (((((((([103, 40, 111, 119, 110] ++ dgN w) ++ [120, 44, 115, 40, 104, 112, 111, 115, 116, 40]) ++ nmb sLink [w, e]) ++ [44]) ++ txt (indexT i)) ++ [41, 44]) ++ nmb sText [i]) ++ [41, 41]) = txt (msgT w e i) := by
  rw [txt_msg, show txt (indexT i) = nmb sIndex [i] by simp [indexT, txt]]; simp [nmb, sOwn]
theorem ix_len (i : Nat) : (txt (indexT i)).length ≤ 8 := by rw [show txt (indexT i) = nmb sIndex [i] by simp [indexT, txt]]; exact nmb_len sIndex [i]
theorem tx_len (i : Nat) : (nmb sText [i]).length ≤ 7 := nmb_len sText [i]
theorem lay_keys_in {s : Sg} {w : Nat} (h : w ∈ s.names) : (s.lay w).keys = s.keys ++ [(w, s.epoch)] := by show (if w ∈ s.names then s.keys ++ [(w, s.epoch)] else s.keys) = _; rw [if_pos h]
theorem lay_keys_out {s : Sg} {w : Nat} (h : w ∉ s.names) : (s.lay w).keys = s.keys := by show (if w ∈ s.names then s.keys ++ [(w, s.epoch)] else s.keys) = _; rw [if_neg h]

set_option maxRecDepth 100000 in
set_option maxHeartbeats 8000000 in
theorem RRun_any (w0 : World) (Ps : List Blk) {es : List (Int × Int)} {ak aw : Option Addr} {ck cw : Nat} (hrk : RowR w0 Ps 1 (.slice ak es.length ck) es.length (es.map fun e => Value.int .i64 e.1)) (hrw : RowR w0 Ps 1 (.slice aw es.length cw) es.length (es.map fun e => Value.int .i64 e.2)) : FnG P 24 [.slice ak es.length ck, .slice aw es.length cw] w0 Ps [] (fun v Y => ∃ vt vk vb Lt Lk Lb Q xs, Y = Lt ++ (Lk ++ (Lb ++ Q)) ∧ v = .tuple #[vt, vk, vb, .int .i64 (sgRun es).1] ∧ Sl vt (tdX xs) 5 Lt ∧ xs.map (fun e => (e.t, e.sec)) = (sgOut es).told.map (fun t => (t, !t.open (sgOut es))) ∧ TdXA w0 Q xs ∧ Sl vk ((sgOut es).known.map kV) 1 Lk ∧ Sl vb ((sgOut es).bare.map iV) 1 Lb) := by
  refine FnG.of 228 [.tmp 4, .tmp 5, .tmp 6, .tmp 7] Go.Proofs.Tryz.func24 rfl rfl rfl rfl (fun G hG => ?_)
  refine T.seq ?_
  refine T.region ?_
  refine TL.cons rfl (V1.t (V1.assign' z_C) ?_)
  refine TL.cons rfl (V1.t (V1.assign' z_C) ?_)
  refine TL.cons rfl (V1.t (V1.assign' z_C) ?_)
  refine TL.cons rfl (V1.t (V1.assign' z_C) ?_)
  refine TL.nil ?_
  refine T.seq ?_
  refine T.seq ?_
  refine T.region ?_
  refine TL.cons rfl (V1.t (V1.move' z_C) ?_)
  refine TL.cons rfl (V1.t (V1.lenSl ty_44 rfl) ?_)
  refine TL.cons rfl (T1.gtI_split rfl rfl (fun h1 => ?_) (fun h1 => ?_))
  ·
    refine TL.nil ?_
    refine T.cond_t rfl ?_
    refine T.seq ?_
    refine T.region ?_
    refine TL.cons rfl (V1.t (V1.assign' z_C) ?_)
    refine TL.cons rfl (V1.t (V1.assign' z_C) ?_)
    refine TL.cons rfl (V1.t (V1.assign' z_C) ?_)
    refine TL.cons rfl (V1.t (V1.assign' z_C) ?_)
    refine TL.nil ?_
    refine T.ret ?_
    have hE : (sgRun es).1 = 2 := by unfold sgRun; rw [if_pos (by omega)]
    have hO := sgOut_err (es := es) (by rw [hE]; decide)
    exact ⟨_, G, _, .cons (.tmp z_C) (.cons (.tmp z_C) (.cons (.tmp z_C) (.cons (.tmp z_C) .nil))), z_A, [], rfl, _, _, _, [], [], [], [], [], rfl, by rw [hE]; rfl, Sl.nil, by rw [hO]; rfl, (fun e h => by cases h), by rw [hO]; exact Sl.nil, by rw [hO]; exact Sl.nil⟩
  ·
    have hes : es.length ≤ 24 := by omega
    refine TL.nil ?_
    refine T.cond_f rfl ?_
    refine T.skip ?_
    refine T.seq ?_
    refine T.region ?_
    refine TL.cons rfl (V1.t (V1.assign' z_C) ?_)
    refine TL.nil ?_
    refine T.seq ?_
    refine T.region ?_
    refine TL.cons rfl (V1.t (V1.assign' z_C) ?_)
    refine TL.nil ?_
    refine T.seq ?_
    refine T.region ?_
    refine TL.cons rfl (V1.t (V1.assign' z_C) ?_)
    refine TL.cons rfl (V1.t (V1.assign' z_C) ?_)
    refine TL.cons rfl (V1.t (V1.assign' z_C) ?_)
    refine TL.nil ?_
    refine T.seq ?_
    refine T.region ?_
    refine TL.cons rfl (V1.t (V1.assign' z_C) ?_)
    refine TL.cons rfl (V1.t (V1.assign' z_C) ?_)
    refine TL.nil ?_
    refine T.seq ?_
    refine T.seq ?_
    refine T.region ?_
    refine TL.cons rfl (V1.t (V1.assign' z_C) ?_)
    refine TL.nil ?_
    refine T.block ?_
    refine T.loopL (σ := Nat × Value × List Blk) (l0 := [(0, _), (1, _), (8, _), (10, _), (11, _), (12, _), (13, _), (14, _)]) (fun x => [(15, .int .i64 ((x.1 + 1 : Nat) : Int)), (9, x.2.1)]) (fun x L => L = x.2.2 ++ G ∧ x.1 ≤ 6 ∧ Sl x.2.1 ((Sg.init.known.take x.1).map kV) 1 x.2.2) (fun x => 6 - x.1) (0, .slice none 0 0, []) (.cons rfl (.cons rfl .nil)) (.cons z_C (.cons z_C (.cons z_C (.cons z_C (.cons z_C (.cons z_C (.cons z_C (.cons z_C .nil)))))))) z_A (⟨rfl, Nat.zero_le _, Sl.nil⟩) ?_
    rintro ⟨i, vk, Lk⟩ e_ L ⟨rfl, hi, hsk⟩
    simp only at hi hsk
    dsimp only
    have hdg := dgN_len (i + 1)
    have htk : (Sg.init.known.take i).length ≤ 6 := by rw [List.length_take]; exact Nat.min_le_right _ _
    refine T.seq ?_
    refine T.seq ?_
    refine T.region ?_
    refine TL.cons rfl (V1.t (V1.move' z_C) ?_)
    refine TL.cons rfl (T1.leI_split rfl rfl (fun h8 => ?_) (fun h8 => ?_))
    ·
      refine TL.nil ?_
      refine T.cond_t rfl ?_
      refine T.skip ?_
      refine T.seq ?_
      refine T.block ?_
      refine T.region ?_
      refine TL.cons rfl (V1.t (V1.move' z_C) ?_)
      refine TL.cons rfl (V1.t (V1.move' z_C) ?_)
      refine TL.cons rfl (T1.callV has_53 rfl rfl (digits_any w0 (i + 1) (by omega)) z_B (fun v_ hv => ?_))
      obtain rfl := hv
      refine TL.cons rfl (V1.t (V1.addSr (a := [94, 40, 111, 119, 110]) (b := dgN (i + 1)) rfl rfl (by (try simp only [List.length_append, List.length_cons, List.length_nil]); omega) rfl) ?_)
      refine TL.cons rfl (V1.t (V1.addSr (b := [120, 41]) (r := txt (pub (ownT (i + 1)))) rfl rfl (by (try simp only [List.length_append, List.length_cons, List.length_nil]); omega) (txt_pub2 _)) ?_)
      refine TL.cons rfl (T1.buildSl1 (os := [.tmp 35]) ty_50 sz_9 zr_9 (by decide) rfl (.cons (v := kV (pub (ownT (i + 1)))) rfl .nil) rfl (ones rfl) (fun b36 => ?_))
      refine TL.cons rfl (T1.append ty_50 kd_50 sz_9 by_9 zr_9 rfl (by decide) (by decide) rfl rfl hsk (.sl (vs := [kV (pub (ownT (i + 1)))]) (RdN.at0 z_D) (by rfl)) (ones rfl) 2000 (by rw [List.length_map]; show _ + 1 ≤ _; omega) (by decide) z_E (fun vk2 Lk2 hsk2 => ?_))
      refine TL.cons rfl (V1.t (V1.assign' z_C) ?_)
      refine TL.nil ?_
      refine T.region ?_
      refine TL.cons rfl (V1.t (V1.move' z_C) ?_)
      refine TL.cons rfl (V1.t (V1.add (c := ((i + 1 + 1 : Nat) : Int)) rfl rfl (by rw [wrap_i64 _ (by omega) (by omega)]; omega)) ?_)
      refine TL.cons rfl (V1.t (V1.assign' z_C) ?_)
      refine TL.nil ?_
      exact ⟨(i + 1, vk2, Lk2), Lk2 ++ G, _, (by simp only; omega), (.cons rfl (.cons rfl .nil)), (.cons rfl (.cons rfl (.cons rfl (.cons rfl (.cons rfl (.cons rfl (.cons rfl (.cons rfl .nil)))))))), z_A, ⟨rfl, by simp only; omega, by simp only; rw [List.take_add_one, pubs_at i (by omega), List.map_append]; exact hsk2⟩⟩
    ·
      obtain rfl : i = 6 := by omega
      refine TL.nil ?_
      refine T.cond_f rfl ?_
      refine T.exit ?_
      refine T.seq ?_
      refine T.seq ?_
      refine T.region ?_
      refine TL.cons rfl (V1.t (V1.assign' z_C) ?_)
      refine TL.nil ?_
      refine T.block ?_
      refine T.loopL (σ := Nat × Sg × Value × Value × Value × Value × Value) (l0 := [(0, _), (1, _)]) (fun x => [(16, .int .i64 (x.1 : Nat)), (13, iV x.2.1.epoch), (14, iV x.2.1.says), (8, x.2.2.1), (9, x.2.2.2.1), (10, x.2.2.2.2.1), (11, x.2.2.2.2.2.1), (12, x.2.2.2.2.2.2)]) (fun x L => RunP w0 x.2.1 x.2.2.1 x.2.2.2.1 x.2.2.2.2.1 x.2.2.2.2.2.1 x.2.2.2.2.2.2 G L ∧ x.1 ≤ es.length ∧ SgInv x.1 x.2.1 ∧ x.2.1.keys.length ≤ x.1 ∧ Sg.init.runs es = x.2.1.runs (es.drop x.1)) (fun x => es.length - x.1) (0, Sg.init, .slice none 0 0, vk, .slice none 0 0, .slice none 0 0, .slice none 0 0) (.cons rfl (.cons rfl (.cons rfl (.cons rfl (.cons rfl (.cons rfl (.cons rfl (.cons rfl .nil)))))))) (.cons z_C (.cons z_C .nil)) z_A (⟨⟨[], Lk, [], [], [], [], (show Lk ++ G = [] ++ (Lk ++ ([] ++ ([] ++ ([] ++ G)))) from by simp), Sl.nil, rfl, (fun e h => by cases h), hsk, RowR.nil, Sl.nil, Sl.nil⟩, Nat.zero_le _, SgInv.start, Nat.zero_le _, rfl⟩) ?_
      rintro ⟨i, s, vt, vk, vn, vb, vy⟩ e_ L ⟨⟨Lt, Lk, Lb, Ly, Q, xs, rfl, hst, htm, hxA, hsk, hrn, hsb, hsy⟩, hi, hI, hkyl, hrun⟩
      simp only at hi hst hI hrun hkyl htm hxA hsk hrn hsb hsy
      dsimp only
      obtain ⟨an, cn, rfl⟩ := hrn.form
      have hn6 := asc_len (nm_ok hI).1 (nm_ok hI).2
      have h99 : ∀ n ∈ s.names, n < 100 := fun n hn => by have := (nm_ok hI).2 n hn; omega
      have hep := hI.ep
      have hsa := hI.says
      have htl := hI.tl
      have hkl := hI.kl
      have hb6 := bare_len hI
      have hrb := Sl.nat (w0 := w0) hsb
      have hxl : xs.length = s.told.length := by rw [← htm, List.length_map]
      have hkm : (s.keys.map kN).length = s.keys.length := List.length_map ..
      refine T.seq ?_
      refine T.seq ?_
      refine T.region ?_
      refine TL.cons rfl (V1.t (V1.move' z_C) ?_)
      refine TL.cons rfl (V1.t (V1.move' z_C) ?_)
      refine TL.cons rfl (V1.t (V1.lenSl ty_44 rfl) ?_)
      refine TL.cons rfl (T1.ltI_split rfl rfl (fun h12 => ?_) (fun h12 => ?_))
      ·
        obtain ⟨⟨k, w⟩, hx0⟩ : ∃ e, es[i]? = some e := ⟨_, List.getElem?_eq_getElem (by omega)⟩
        obtain ⟨bk_, ok_, rfl, hrdk⟩ := hrk.at (by omega) P
        obtain ⟨bw_, ow_, rfl, hrdw⟩ := hrw.at (by omega) P
        refine TL.nil ?_
        refine T.cond_t rfl ?_
        refine T.skip ?_
        refine T.seq ?_
        refine T.block ?_
        refine T.seq ?_
        refine T.region ?_
        refine TL.cons rfl (V1.t (V1.move' z_C) ?_)
        refine TL.cons rfl (V1.t (V1.move' z_C) ?_)
        refine TL.cons rfl (V1.t (V1.indexAddrS ty_44 sz_3 rfl rfl (by omega) (by omega)) ?_)
        refine TL.cons rfl (V1.t (V1.load1 (v := .int .i64 w) one_3 rfl (show Rd _ _ ⟨_, _ + i * 1, none⟩ _ from by rw [Nat.mul_one]; exact hrdw _ rfl rfl _ z_B i _ (by rw [List.getElem?_map, hx0]; rfl))) ?_)
        refine TL.cons rfl (V1.t (V1.assign' z_C) ?_)
        refine TL.nil ?_
        refine T.seq ?_
        refine T.seq ?_
        refine T.region ?_
        refine TL.cons rfl (V1.t (V1.move' z_C) ?_)
        refine TL.cons rfl (T1.ltI_split rfl rfl (fun h15 => ?_) (fun h15 => ?_))
        ·
          refine TL.cons rfl (V1.t (V1.move' z_C) ?_)
          refine TL.no rfl ?_
          refine TL.no rfl ?_
          refine TL.cons rfl (V1.t (V1.pick rfl z_C) ?_)
          refine TL.nil ?_
          refine T.cond_t rfl ?_
          refine T.seq ?_
          refine T.live (l := []) .nil (fun e_ => ?_)
          refine T.region ?_
          refine TL.cons rfl (V1.t (V1.assign' z_C) ?_)
          refine TL.cons rfl (V1.t (V1.assign' z_C) ?_)
          refine TL.cons rfl (V1.t (V1.assign' z_C) ?_)
          refine TL.cons rfl (V1.t (V1.assign' z_C) ?_)
          refine TL.nil ?_
          refine T.ret ?_
          have hE : (sgRun es).1 = 1 := by rw [sgRun_few (by omega), hrun, drop_ev hx0]; exact runs_err (by rw [step_range (by omega)]) (by decide)
          have hO := sgOut_err (es := es) (by rw [hE]; decide)
          exact ⟨_, G, _, .cons (.tmp z_C) (.cons (.tmp z_C) (.cons (.tmp z_C) (.cons (.tmp z_C) .nil))), z_A, [], rfl, _, _, _, [], [], [], [], [], rfl, by rw [hE]; rfl, Sl.nil, by rw [hO]; rfl, (fun e h => by cases h), by rw [hO]; exact Sl.nil, by rw [hO]; exact Sl.nil⟩
        ·
          refine TL.cons rfl (V1.t (V1.move' z_C) ?_)
          refine TL.cons rfl (V1.t (V1.move' z_C) ?_)
          refine TL.cons rfl (T1.gtI_split rfl rfl (fun h154 => ?_) (fun h154 => ?_))
          ·
            refine TL.cons rfl (V1.t (V1.pick rfl z_C) ?_)
            refine TL.nil ?_
            refine T.cond_t rfl ?_
            refine T.seq ?_
            refine T.live (l := []) .nil (fun e_ => ?_)
            refine T.region ?_
            refine TL.cons rfl (V1.t (V1.assign' z_C) ?_)
            refine TL.cons rfl (V1.t (V1.assign' z_C) ?_)
            refine TL.cons rfl (V1.t (V1.assign' z_C) ?_)
            refine TL.cons rfl (V1.t (V1.assign' z_C) ?_)
            refine TL.nil ?_
            refine T.ret ?_
            have hE : (sgRun es).1 = 1 := by rw [sgRun_few (by omega), hrun, drop_ev hx0]; exact runs_err (by rw [step_range (by omega)]) (by decide)
            have hO := sgOut_err (es := es) (by rw [hE]; decide)
            exact ⟨_, G, _, .cons (.tmp z_C) (.cons (.tmp z_C) (.cons (.tmp z_C) (.cons (.tmp z_C) .nil))), z_A, [], rfl, _, _, _, [], [], [], [], [], rfl, by rw [hE]; rfl, Sl.nil, by rw [hO]; rfl, (fun e h => by cases h), by rw [hO]; exact Sl.nil, by rw [hO]; exact Sl.nil⟩
          ·
            obtain ⟨w1, rfl⟩ : ∃ w1 : Nat, w = w1 := ⟨w.toNat, by omega⟩
            have hw6 : 1 ≤ w1 ∧ w1 ≤ 6 := by omega
            have hw99 : w1 < 100 := by omega
            have hdw := dgN_len w1
            refine TL.cons rfl (V1.t (V1.pick rfl z_C) ?_)
            refine TL.nil ?_
            refine T.cond_f rfl ?_
            refine T.skip ?_
            refine T.seq ?_
            refine T.seq ?_
            refine T.live (l := [(0, _), (1, _), (8, _), (9, _), (10, _), (11, _), (12, _), (13, _), (14, _), (16, _), (17, _)]) (.cons z_C (.cons z_C (.cons z_C (.cons z_C (.cons z_C (.cons z_C (.cons z_C (.cons z_C (.cons z_C (.cons z_C (.cons z_C .nil))))))))))) (fun e_ => ?_)
            refine T.region ?_
            refine TL.cons rfl (V1.t (V1.move' z_C) ?_)
            refine TL.cons rfl (V1.t (V1.move' z_C) ?_)
            refine TL.cons rfl (V1.t (V1.indexAddrS ty_44 sz_3 rfl rfl (by omega) (by omega)) ?_)
            refine TL.cons rfl (V1.t (V1.load1 (v := .int .i64 k) one_3 rfl (show Rd _ _ ⟨_, _ + i * 1, none⟩ _ from by rw [Nat.mul_one]; exact hrdk _ rfl rfl _ z_B i _ (by rw [List.getElem?_map, hx0]; rfl))) ?_)
            refine TL.cons rfl (T1.ltI_split rfl rfl (fun h17 => ?_) (fun h17 => ?_))
            ·
              refine TL.cons rfl (V1.t (V1.move' z_C) ?_)
              refine TL.no rfl ?_
              refine TL.no rfl ?_
              refine TL.no rfl ?_
              refine TL.no rfl ?_
              refine TL.no rfl ?_
              refine TL.cons rfl (V1.t (V1.pick rfl z_C) ?_)
              refine TL.nil ?_
              refine T.cond_t rfl ?_
              refine T.seq ?_
              refine T.region ?_
              refine TL.cons rfl (V1.t (V1.assign' z_C) ?_)
              refine TL.cons rfl (V1.t (V1.assign' z_C) ?_)
              refine TL.cons rfl (V1.t (V1.assign' z_C) ?_)
              refine TL.cons rfl (V1.t (V1.assign' z_C) ?_)
              refine TL.nil ?_
              refine T.ret ?_
              have hE : (sgRun es).1 = 110 := by rw [sgRun_few (by omega), hrun, drop_ev hx0]; exact runs_err (by rw [step_shape hw6 (by omega)]) (by decide)
              have hO := sgOut_err (es := es) (by rw [hE]; decide)
              exact ⟨_, G, _, .cons (.tmp z_C) (.cons (.tmp z_C) (.cons (.tmp z_C) (.cons (.tmp z_C) .nil))), z_A, [], rfl, _, _, _, [], [], [], [], [], rfl, by rw [hE]; rfl, Sl.nil, by rw [hO]; rfl, (fun e h => by cases h), by rw [hO]; exact Sl.nil, by rw [hO]; exact Sl.nil⟩
            ·
              refine TL.cons rfl (V1.t (V1.move' z_C) ?_)
              refine TL.cons rfl (V1.t (V1.move' z_C) ?_)
              refine TL.cons rfl (V1.t (V1.move' z_C) ?_)
              refine TL.cons rfl (V1.t (V1.indexAddrS ty_44 sz_3 rfl rfl (by omega) (by omega)) ?_)
              refine TL.cons rfl (V1.t (V1.load1 (v := .int .i64 k) one_3 rfl (show Rd _ _ ⟨_, _ + i * 1, none⟩ _ from by rw [Nat.mul_one]; exact hrdk _ rfl rfl _ z_B i _ (by rw [List.getElem?_map, hx0]; rfl))) ?_)
              refine TL.cons rfl (T1.gtI_split rfl rfl (fun h1710 => ?_) (fun h1710 => ?_))
              ·
                refine TL.cons rfl (V1.t (V1.pick rfl z_C) ?_)
                refine TL.nil ?_
                refine T.cond_t rfl ?_
                refine T.seq ?_
                refine T.region ?_
                refine TL.cons rfl (V1.t (V1.assign' z_C) ?_)
                refine TL.cons rfl (V1.t (V1.assign' z_C) ?_)
                refine TL.cons rfl (V1.t (V1.assign' z_C) ?_)
                refine TL.cons rfl (V1.t (V1.assign' z_C) ?_)
                refine TL.nil ?_
                refine T.ret ?_
                have hE : (sgRun es).1 = 110 := by rw [sgRun_few (by omega), hrun, drop_ev hx0]; exact runs_err (by rw [step_shape hw6 (by omega)]) (by decide)
                have hO := sgOut_err (es := es) (by rw [hE]; decide)
                exact ⟨_, G, _, .cons (.tmp z_C) (.cons (.tmp z_C) (.cons (.tmp z_C) (.cons (.tmp z_C) .nil))), z_A, [], rfl, _, _, _, [], [], [], [], [], rfl, by rw [hE]; rfl, Sl.nil, by rw [hO]; rfl, (fun e h => by cases h), by rw [hO]; exact Sl.nil, by rw [hO]; exact Sl.nil⟩
              ·
                refine TL.cons rfl (V1.t (V1.pick rfl z_C) ?_)
                refine TL.nil ?_
                refine T.cond_f rfl ?_
                refine T.skip ?_
                refine T.seq ?_
                refine T.region ?_
                refine TL.cons rfl (V1.t (V1.move' z_C) ?_)
                refine TL.cons rfl (V1.t (V1.move' z_C) ?_)
                refine TL.cons rfl (T1.callV has_54 rfl rfl (rhas_any w0 Q hrn (by omega) w1) z_B (fun v_ hv => ?_))
                obtain rfl := hv
                rcases Classical.em (w1 ∈ s.names) with hin | hin
                ·
                  rw [decide_eq_true hin]
                  refine TL.cons rfl (V1.t (V1.assign' z_C) ?_)
                  refine TL.nil ?_
                  refine T.seq ?_
                  refine T.seq ?_
                  obtain rfl | rfl | rfl | rfl : k = 1 ∨ k = 2 ∨ k = 3 ∨ k = 4 := by omega
                  ·
                    refine T.live (l := [(0, _), (1, _), (8, _), (9, _), (10, _), (11, _), (12, _), (13, _), (14, _), (16, _), (17, _), (18, _)]) (.cons z_C (.cons z_C (.cons z_C (.cons z_C (.cons z_C (.cons z_C (.cons z_C (.cons z_C (.cons z_C (.cons z_C (.cons z_C (.cons z_C .nil)))))))))))) (fun e_ => ?_)
                    refine T.region ?_
                    refine TL.cons rfl (V1.t (V1.move' z_C) ?_)
                    refine TL.cons rfl (V1.t (V1.move' z_C) ?_)
                    refine TL.cons rfl (V1.t (V1.indexAddrS ty_44 sz_3 rfl rfl (by omega) (by omega)) ?_)
                    refine TL.cons rfl (V1.t (V1.load1 (v := .int .i64 1) one_3 rfl (show Rd _ _ ⟨_, _ + i * 1, none⟩ _ from by rw [Nat.mul_one]; exact hrdk _ rfl rfl _ z_B i _ (by rw [List.getElem?_map, hx0]; rfl))) ?_)
                    refine TL.cons rfl (V1.t (V1.eqI (r := true) rfl rfl (by decide)) ?_)
                    refine TL.cons rfl (V1.t (V1.move' z_C) ?_)
                    refine TL.cons rfl (V1.t (V1.move' z_C) ?_)
                    refine TL.cons rfl (V1.t (V1.not rfl rfl) ?_)
                    refine TL.cons rfl (V1.t (V1.pick rfl z_C) ?_)
                    refine TL.cons rfl (V1.t (V1.move' z_C) ?_)
                    refine TL.cons rfl (V1.t (V1.move' z_C) ?_)
                    refine TL.cons rfl (V1.t (V1.move' z_C) ?_)
                    refine TL.cons rfl (V1.t (V1.indexAddrS ty_44 sz_3 rfl rfl (by omega) (by omega)) ?_)
                    refine TL.cons rfl (V1.t (V1.load1 (v := .int .i64 1) one_3 rfl (show Rd _ _ ⟨_, _ + i * 1, none⟩ _ from by rw [Nat.mul_one]; exact hrdk _ rfl rfl _ z_B i _ (by rw [List.getElem?_map, hx0]; rfl))) ?_)
                    refine TL.cons rfl (V1.t (V1.eqI (r := false) rfl rfl (by decide)) ?_)
                    refine TL.cons rfl (V1.t (V1.move' z_C) ?_)
                    refine TL.no rfl ?_
                    refine TL.cons rfl (V1.t (V1.pick rfl z_C) ?_)
                    refine TL.cons rfl (V1.t (V1.pick rfl z_C) ?_)
                    refine TL.nil ?_
                    refine T.cond_f rfl ?_
                    refine T.skip ?_
                    refine T.seq ?_
                    refine T.seq ?_
                    refine T.live (l := [(0, _), (1, _), (8, _), (9, _), (10, _), (11, _), (12, _), (13, _), (14, _), (16, _), (17, _), (18, _)]) (.cons z_C (.cons z_C (.cons z_C (.cons z_C (.cons z_C (.cons z_C (.cons z_C (.cons z_C (.cons z_C (.cons z_C (.cons z_C (.cons z_C .nil)))))))))))) (fun e_ => ?_)
                    refine T.region ?_
                    refine TL.cons rfl (V1.t (V1.move' z_C) ?_)
                    refine TL.cons rfl (V1.t (V1.move' z_C) ?_)
                    refine TL.cons rfl (V1.t (V1.indexAddrS ty_44 sz_3 rfl rfl (by omega) (by omega)) ?_)
                    refine TL.cons rfl (V1.t (V1.load1 (v := .int .i64 1) one_3 rfl (show Rd _ _ ⟨_, _ + i * 1, none⟩ _ from by rw [Nat.mul_one]; exact hrdk _ rfl rfl _ z_B i _ (by rw [List.getElem?_map, hx0]; rfl))) ?_)
                    refine TL.cons rfl (V1.t (V1.eqI (r := false) rfl rfl (by decide)) ?_)
                    refine TL.cons rfl (V1.t (V1.move' z_C) ?_)
                    refine TL.no rfl ?_
                    refine TL.cons rfl (V1.t (V1.pick rfl z_C) ?_)
                    refine TL.nil ?_
                    refine T.cond_f rfl ?_
                    refine T.skip ?_
                    refine T.seq ?_
                    refine T.region ?_
                    refine TL.cons rfl (V1.t (V1.move' z_C) ?_)
                    refine TL.cons rfl (V1.t (V1.move' z_C) ?_)
                    refine TL.cons rfl (V1.t (V1.indexAddrS ty_44 sz_3 rfl rfl (by omega) (by omega)) ?_)
                    refine TL.cons rfl (V1.t (V1.load1 (v := .int .i64 1) one_3 rfl (show Rd _ _ ⟨_, _ + i * 1, none⟩ _ from by rw [Nat.mul_one]; exact hrdk _ rfl rfl _ z_B i _ (by rw [List.getElem?_map, hx0]; rfl))) ?_)
                    refine TL.cons rfl (V1.t (V1.eqI (r := false) rfl rfl (by decide)) ?_)
                    refine TL.nil ?_
                    refine T.cond_f rfl ?_
                    refine T.skip ?_
                    refine T.region ?_
                    refine TL.cons rfl (V1.t (V1.move' z_C) ?_)
                    refine TL.cons rfl (V1.t (V1.add (c := ((i + 1 : Nat) : Int)) rfl rfl (by rw [wrap_i64 _ (by omega) (by omega)]; omega)) ?_)
                    refine TL.cons rfl (V1.t (V1.assign' z_C) ?_)
                    refine TL.nil ?_
                    have hstep : s.step 1 (w1 : Int) = (0, s) := step_none hw6 (by omega) (fun h => hin) (fun h => absurd h (by omega))
                    have hI2 : SgInv (i + 1) (s) := by have h_ := hI.step 1 (w1 : Int); rw [hstep] at h_; exact h_
                    have hky2 : (s).keys.length ≤ i + 1 := by have h_ := keys_step s 1 (w1 : Int); rw [hstep] at h_; simp only at h_; omega
                    have hrun2 : Sg.init.runs es = (s).runs (es.drop (i + 1)) := by rw [hrun, drop_ev hx0, runs_ok (by rw [hstep]), hstep]
                    exact ⟨(i + 1, s, vt, vk, .slice an s.names.length cn, vb, vy), Lt ++ (Lk ++ (Lb ++ (Ly ++ (Q ++ G)))), _, (by simp only; omega), (.cons rfl (.cons rfl (.cons rfl (.cons rfl (.cons rfl (.cons rfl (.cons rfl (.cons rfl .nil)))))))), (.cons rfl (.cons rfl .nil)), z_A, ⟨⟨Lt, Lk, Lb, Ly, Q, xs, rfl, hst, htm, hxA, hsk, hrn, hsb, hsy⟩, by simp only; omega, hI2, hky2, hrun2⟩⟩
                  ·
                    refine T.live (l := [(0, _), (1, _), (8, _), (9, _), (10, _), (11, _), (12, _), (13, _), (14, _), (16, _), (17, _), (18, _)]) (.cons z_C (.cons z_C (.cons z_C (.cons z_C (.cons z_C (.cons z_C (.cons z_C (.cons z_C (.cons z_C (.cons z_C (.cons z_C (.cons z_C .nil)))))))))))) (fun e_ => ?_)
                    refine T.region ?_
                    refine TL.cons rfl (V1.t (V1.move' z_C) ?_)
                    refine TL.cons rfl (V1.t (V1.move' z_C) ?_)
                    refine TL.cons rfl (V1.t (V1.indexAddrS ty_44 sz_3 rfl rfl (by omega) (by omega)) ?_)
                    refine TL.cons rfl (V1.t (V1.load1 (v := .int .i64 2) one_3 rfl (show Rd _ _ ⟨_, _ + i * 1, none⟩ _ from by rw [Nat.mul_one]; exact hrdk _ rfl rfl _ z_B i _ (by rw [List.getElem?_map, hx0]; rfl))) ?_)
                    refine TL.cons rfl (V1.t (V1.eqI (r := false) rfl rfl (by decide)) ?_)
                    refine TL.cons rfl (V1.t (V1.move' z_C) ?_)
                    refine TL.no rfl ?_
                    refine TL.no rfl ?_
                    refine TL.cons rfl (V1.t (V1.pick rfl z_C) ?_)
                    refine TL.cons rfl (V1.t (V1.move' z_C) ?_)
                    refine TL.cons rfl (V1.t (V1.move' z_C) ?_)
                    refine TL.cons rfl (V1.t (V1.move' z_C) ?_)
                    refine TL.cons rfl (V1.t (V1.indexAddrS ty_44 sz_3 rfl rfl (by omega) (by omega)) ?_)
                    refine TL.cons rfl (V1.t (V1.load1 (v := .int .i64 2) one_3 rfl (show Rd _ _ ⟨_, _ + i * 1, none⟩ _ from by rw [Nat.mul_one]; exact hrdk _ rfl rfl _ z_B i _ (by rw [List.getElem?_map, hx0]; rfl))) ?_)
                    refine TL.cons rfl (V1.t (V1.eqI (r := true) rfl rfl (by decide)) ?_)
                    refine TL.cons rfl (V1.t (V1.move' z_C) ?_)
                    refine TL.cons rfl (V1.t (V1.move' z_C) ?_)
                    refine TL.cons rfl (V1.t (V1.pick rfl z_C) ?_)
                    refine TL.cons rfl (V1.t (V1.pick rfl z_C) ?_)
                    refine TL.nil ?_
                    refine T.cond_t rfl ?_
                    refine T.seq ?_
                    refine T.live (l := [(0, _), (1, _), (8, _), (9, _), (10, _), (11, _), (12, _), (13, _), (14, _), (16, _), (17, _), (18, _)]) (.cons z_C (.cons z_C (.cons z_C (.cons z_C (.cons z_C (.cons z_C (.cons z_C (.cons z_C (.cons z_C (.cons z_C (.cons z_C (.cons z_C .nil)))))))))))) (fun e_ => ?_)
                    refine T.region ?_
                    refine TL.cons rfl (V1.t (V1.assign' z_C) ?_)
                    refine TL.nil ?_
                    refine T.seq ?_
                    refine T.seq ?_
                    refine T.region ?_
                    refine TL.cons rfl (V1.t (V1.assign' z_C) ?_)
                    refine TL.nil ?_
                    refine T.block ?_
                    refine T.loopL (σ := Nat × Value × List Blk) (l0 := [(0, _), (1, _), (8, _), (9, _), (10, _), (11, _), (12, _), (13, _), (14, _), (16, _), (17, _), (18, _)]) (fun x => [(20, .int .i64 ((x.1 + 1 : Nat) : Int)), (19, x.2.1)]) (fun x L => L = x.2.2 ++ (Lt ++ (Lk ++ (Lb ++ (Ly ++ (Q ++ G))))) ∧ x.1 ≤ 6 ∧ Sl x.2.1 ((nx s w1 false x.1).map iV) 1 x.2.2) (fun x => 6 - x.1) (0, .slice none 0 0, []) (.cons rfl (.cons rfl .nil)) (.cons z_C (.cons z_C (.cons z_C (.cons z_C (.cons z_C (.cons z_C (.cons z_C (.cons z_C (.cons z_C (.cons z_C (.cons z_C (.cons z_C .nil)))))))))))) z_A (⟨rfl, Nat.zero_le _, Sl.nil⟩) ?_
                    rintro ⟨j, vx, Lx⟩ e_ L ⟨rfl, hj, hsx⟩
                    simp only at hj hsx
                    dsimp only
                    have hxn := nx_len (s := s) (w := w1) (a := false) (i := j)
                    refine T.seq ?_
                    refine T.seq ?_
                    refine T.region ?_
                    refine TL.cons rfl (V1.t (V1.move' z_C) ?_)
                    refine TL.cons rfl (T1.leI_split rfl rfl (fun h23 => ?_) (fun h23 => ?_))
                    ·
                      refine TL.nil ?_
                      refine T.cond_t rfl ?_
                      refine T.skip ?_
                      refine T.seq ?_
                      refine T.block ?_
                      refine T.seq ?_
                      refine T.region ?_
                      refine TL.cons rfl (V1.t (V1.move' z_C) ?_)
                      refine TL.cons rfl (V1.t (V1.move' z_C) ?_)
                      refine TL.cons rfl (T1.callV has_54 rfl rfl (rhas_any w0 Q hrn (by omega) (j + 1)) z_B (fun v_ hv => ?_))
                      obtain rfl := hv
                      rcases Classical.em ((j + 1) ∈ s.names) with hin3 | hin3
                      ·
                        rw [decide_eq_true hin3]
                        refine TL.cons rfl (V1.t (V1.move' z_C) ?_)
                        refine TL.cons rfl (V1.t (V1.move' z_C) ?_)
                        refine TL.cons rfl (V1.t (V1.move' z_C) ?_)
                        refine TL.cons rfl (T1.neI_split rfl rfl (fun h256 => ?_) (fun h256 => ?_))
                        ·
                          refine TL.cons rfl (V1.t (V1.pick rfl z_C) ?_)
                          refine TL.cons rfl (V1.t (V1.move' z_C) ?_)
                          refine TL.no rfl ?_
                          refine TL.no rfl ?_
                          refine TL.no rfl ?_
                          refine TL.no rfl ?_
                          refine TL.no rfl ?_
                          refine TL.no rfl ?_
                          refine TL.no rfl ?_
                          refine TL.no rfl ?_
                          refine TL.no rfl ?_
                          refine TL.no rfl ?_
                          refine TL.cons rfl (V1.t (V1.pick rfl z_C) ?_)
                          refine TL.nil ?_
                          refine T.cond_t rfl ?_
                          refine T.live (l := [(0, _), (1, _), (8, _), (9, _), (10, _), (11, _), (12, _), (13, _), (14, _), (16, _), (17, _), (18, _), (19, _), (20, _)]) (.cons z_C (.cons z_C (.cons z_C (.cons z_C (.cons z_C (.cons z_C (.cons z_C (.cons z_C (.cons z_C (.cons z_C (.cons z_C (.cons z_C (.cons z_C (.cons z_C .nil)))))))))))))) (fun e_ => ?_)
                          refine T.region ?_
                          refine TL.cons rfl (V1.t (V1.move' z_C) ?_)
                          refine TL.cons rfl (V1.t (V1.move' z_C) ?_)
                          refine TL.cons rfl (T1.buildSl1 (os := [.tmp 113]) ty_44 sz_3 zr_3 (by decide) rfl (.cons (v := iV (j + 1)) rfl .nil) rfl (ones rfl) (fun b114 => ?_))
                          refine TL.cons rfl (T1.append ty_44 kd_44 sz_3 by_3 zr_3 rfl (by decide) (by decide) rfl rfl hsx (.sl (vs := [iV (j + 1)]) (RdN.at0 z_D) (by rfl)) (ones rfl) 2000 (by rw [List.length_map]; show _ + 1 ≤ _; omega) (by decide) z_E (fun vx2 Lx2 hsx2 => ?_))
                          refine TL.cons rfl (V1.t (V1.assign' z_C) ?_)
                          refine TL.nil ?_
                          refine T.region ?_
                          refine TL.cons rfl (V1.t (V1.move' z_C) ?_)
                          refine TL.cons rfl (V1.t (V1.add (c := ((j + 1 + 1 : Nat) : Int)) rfl rfl (by rw [wrap_i64 _ (by omega) (by omega)]; omega)) ?_)
                          refine TL.cons rfl (V1.t (V1.assign' z_C) ?_)
                          refine TL.nil ?_
                          exact ⟨(j + 1, vx2, Lx2), Lx2 ++ (Lt ++ (Lk ++ (Lb ++ (Ly ++ (Q ++ G))))), _, (by simp only; omega), (.cons rfl (.cons rfl .nil)), (.cons rfl (.cons rfl (.cons rfl (.cons rfl (.cons rfl (.cons rfl (.cons rfl (.cons rfl (.cons rfl (.cons rfl (.cons rfl (.cons rfl .nil)))))))))))), z_A, ⟨rfl, by simp only; omega, by simp only; rw [nx_t (by omega) (.inl ⟨hin3, by omega⟩), List.map_append]; exact hsx2⟩⟩
                        ·
                          refine TL.cons rfl (V1.t (V1.pick rfl z_C) ?_)
                          refine TL.cons rfl (V1.t (V1.move' z_C) ?_)
                          refine TL.cons rfl (V1.t (V1.move' z_C) ?_)
                          refine TL.cons rfl (V1.t (V1.move' z_C) ?_)
                          refine TL.cons rfl (V1.t (V1.indexAddrS ty_44 sz_3 rfl rfl (by omega) (by omega)) ?_)
                          refine TL.cons rfl (V1.t (V1.load1 (v := .int .i64 2) one_3 rfl (show Rd _ _ ⟨_, _ + i * 1, none⟩ _ from by rw [Nat.mul_one]; exact hrdk _ rfl rfl _ z_B i _ (by rw [List.getElem?_map, hx0]; rfl))) ?_)
                          refine TL.cons rfl (V1.t (V1.eqI (r := false) rfl rfl (by decide)) ?_)
                          refine TL.cons rfl (V1.t (V1.move' z_C) ?_)
                          refine TL.no rfl ?_
                          refine TL.no rfl ?_
                          refine TL.no rfl ?_
                          refine TL.cons rfl (V1.t (V1.pick rfl z_C) ?_)
                          refine TL.cons rfl (V1.t (V1.pick rfl z_C) ?_)
                          refine TL.nil ?_
                          refine T.cond_f rfl ?_
                          refine T.skip ?_
                          refine T.live (l := [(0, _), (1, _), (8, _), (9, _), (10, _), (11, _), (12, _), (13, _), (14, _), (16, _), (17, _), (18, _), (19, _), (20, _)]) (.cons z_C (.cons z_C (.cons z_C (.cons z_C (.cons z_C (.cons z_C (.cons z_C (.cons z_C (.cons z_C (.cons z_C (.cons z_C (.cons z_C (.cons z_C (.cons z_C .nil)))))))))))))) (fun e_ => ?_)
                          refine T.region ?_
                          refine TL.cons rfl (V1.t (V1.move' z_C) ?_)
                          refine TL.cons rfl (V1.t (V1.add (c := ((j + 1 + 1 : Nat) : Int)) rfl rfl (by rw [wrap_i64 _ (by omega) (by omega)]; omega)) ?_)
                          refine TL.cons rfl (V1.t (V1.assign' z_C) ?_)
                          refine TL.nil ?_
                          exact ⟨(j + 1, vx, Lx), Lx ++ (Lt ++ (Lk ++ (Lb ++ (Ly ++ (Q ++ G))))), _, (by simp only; omega), (.cons rfl (.cons rfl .nil)), (.cons rfl (.cons rfl (.cons rfl (.cons rfl (.cons rfl (.cons rfl (.cons rfl (.cons rfl (.cons rfl (.cons rfl (.cons rfl (.cons rfl .nil)))))))))))), z_A, ⟨rfl, by simp only; omega, by simp only; rw [nx_f (by omega) (fun h => h.elim (fun h => h.2 (by omega)) (fun h => absurd h.1 (by decide)))]; exact hsx⟩⟩
                      ·
                        rw [decide_eq_false hin3]
                        refine TL.cons rfl (V1.t (V1.move' z_C) ?_)
                        refine TL.no rfl ?_
                        refine TL.no rfl ?_
                        refine TL.no rfl ?_
                        refine TL.cons rfl (V1.t (V1.pick rfl z_C) ?_)
                        refine TL.cons rfl (V1.t (V1.move' z_C) ?_)
                        refine TL.cons rfl (V1.t (V1.move' z_C) ?_)
                        refine TL.cons rfl (V1.t (V1.move' z_C) ?_)
                        refine TL.cons rfl (V1.t (V1.indexAddrS ty_44 sz_3 rfl rfl (by omega) (by omega)) ?_)
                        refine TL.cons rfl (V1.t (V1.load1 (v := .int .i64 2) one_3 rfl (show Rd _ _ ⟨_, _ + i * 1, none⟩ _ from by rw [Nat.mul_one]; exact hrdk _ rfl rfl _ z_B i _ (by rw [List.getElem?_map, hx0]; rfl))) ?_)
                        refine TL.cons rfl (V1.t (V1.eqI (r := false) rfl rfl (by decide)) ?_)
                        refine TL.cons rfl (V1.t (V1.move' z_C) ?_)
                        refine TL.no rfl ?_
                        refine TL.no rfl ?_
                        refine TL.no rfl ?_
                        refine TL.cons rfl (V1.t (V1.pick rfl z_C) ?_)
                        refine TL.cons rfl (V1.t (V1.pick rfl z_C) ?_)
                        refine TL.nil ?_
                        refine T.cond_f rfl ?_
                        refine T.skip ?_
                        refine T.live (l := [(0, _), (1, _), (8, _), (9, _), (10, _), (11, _), (12, _), (13, _), (14, _), (16, _), (17, _), (18, _), (19, _), (20, _)]) (.cons z_C (.cons z_C (.cons z_C (.cons z_C (.cons z_C (.cons z_C (.cons z_C (.cons z_C (.cons z_C (.cons z_C (.cons z_C (.cons z_C (.cons z_C (.cons z_C .nil)))))))))))))) (fun e_ => ?_)
                        refine T.region ?_
                        refine TL.cons rfl (V1.t (V1.move' z_C) ?_)
                        refine TL.cons rfl (V1.t (V1.add (c := ((j + 1 + 1 : Nat) : Int)) rfl rfl (by rw [wrap_i64 _ (by omega) (by omega)]; omega)) ?_)
                        refine TL.cons rfl (V1.t (V1.assign' z_C) ?_)
                        refine TL.nil ?_
                        exact ⟨(j + 1, vx, Lx), Lx ++ (Lt ++ (Lk ++ (Lb ++ (Ly ++ (Q ++ G))))), _, (by simp only; omega), (.cons rfl (.cons rfl .nil)), (.cons rfl (.cons rfl (.cons rfl (.cons rfl (.cons rfl (.cons rfl (.cons rfl (.cons rfl (.cons rfl (.cons rfl (.cons rfl (.cons rfl .nil)))))))))))), z_A, ⟨rfl, by simp only; omega, by simp only; rw [nx_f (by omega) (fun h => h.elim (fun h => hin3 h.1) (fun h => absurd h.1 (by decide)))]; exact hsx⟩⟩
                    ·
                      obtain rfl : j = 6 := by omega
                      rw [nx_del hI] at hsx hxn
                      have hrn2 := RowR.ofSl (w0 := w0) (Ps := Lx ++ Q) hsx Inc.here (by decide) (delN s.names w1).length (by simp)
                      refine TL.nil ?_
                      refine T.cond_f rfl ?_
                      refine T.exit ?_
                      refine T.seq ?_
                      refine T.region ?_
                      refine TL.cons rfl (V1.t (V1.move' z_C) ?_)
                      refine TL.cons rfl (V1.t (V1.assign' z_C) ?_)
                      refine TL.nil ?_
                      refine T.seq ?_
                      refine T.region ?_
                      refine TL.cons rfl (V1.t (V1.move' z_C) ?_)
                      refine TL.cons rfl (V1.t (V1.add (c := ((s.epoch + 1 : Nat) : Int)) rfl rfl (by rw [wrap_i64 _ (by omega) (by omega)]; omega)) ?_)
                      refine TL.cons rfl (V1.t (V1.assign' z_C) ?_)
                      refine TL.nil ?_
                      refine T.region ?_
                      refine TL.cons rfl (V1.t (V1.move' z_C) ?_)
                      refine TL.cons rfl (V1.t (V1.move' z_C) ?_)
                      refine TL.cons rfl (V1.t (V1.move' z_C) ?_)
                      refine TL.cons rfl (T1.callC has_55 rfl rfl (letters_any w0 (Lx ++ Q) hrn2 hxn (fun n hn => h99 n (delN_mem.1 hn).1) ((delN_asc (nm_ok hI).1).imp fun h => Nat.ne_of_lt h) (s.epoch + 1) (by omega)) z_B (fun v_ Yl hY => ?_))
                      have hll := letters_len (e := s.epoch + 1) (delN_asc (w := w1) (nm_ok hI).1) (fun n hn => (nm_ok hI).2 n (delN_mem.1 hn).1)
                      refine TL.cons rfl (T1.append ty_50 kd_50 sz_9 by_9 zr_9 rfl (by decide) (by decide) rfl rfl hsk ((RowR.ofSl (w0 := w0) (Ps := Yl) hY Inc.refl (by decide) _ (by rw [List.length_map, Nat.mul_one])).src _ rfl rfl _ z_B) (one_kV _) 2000 (by rw [List.length_map, List.length_map]; omega) (by decide) z_E (fun vk2 Lk2 hsk2 => ?_))
                      rw [← List.map_append] at hsk2
                      refine TL.cons rfl (V1.t (V1.assign' z_C) ?_)
                      refine TL.nil ?_
                      refine T.seq ?_
                      refine T.seq ?_
                      refine T.region ?_
                      refine TL.cons rfl (V1.t (V1.move' z_C) ?_)
                      refine TL.cons rfl (V1.t (V1.move' z_C) ?_)
                      refine TL.cons rfl (V1.t (V1.indexAddrS ty_44 sz_3 rfl rfl (by omega) (by omega)) ?_)
                      refine TL.cons rfl (V1.t (V1.load1 (v := .int .i64 2) one_3 rfl (show Rd _ _ ⟨_, _ + i * 1, none⟩ _ from by rw [Nat.mul_one]; exact hrdk _ rfl rfl _ z_B i _ (by rw [List.getElem?_map, hx0]; rfl))) ?_)
                      refine TL.cons rfl (V1.t (V1.eqI (r := false) rfl rfl (by decide)) ?_)
                      refine TL.cons rfl (V1.t (V1.move' z_C) ?_)
                      refine TL.no rfl ?_
                      refine TL.cons rfl (V1.t (V1.pick rfl z_C) ?_)
                      refine TL.nil ?_
                      refine T.cond_f rfl ?_
                      refine T.skip ?_
                      refine T.seq ?_
                      refine T.live (l := [(0, _), (1, _), (8, _), (9, _), (10, _), (11, _), (12, _), (13, _), (14, _), (16, _), (17, _), (18, _)]) (.cons z_C (.cons z_C (.cons z_C (.cons z_C (.cons z_C (.cons z_C (.cons z_C (.cons z_C (.cons z_C (.cons z_C (.cons z_C (.cons z_C .nil)))))))))))) (fun e_ => ?_)
                      refine T.region ?_
                      refine TL.cons rfl (V1.t (V1.move' z_C) ?_)
                      refine TL.cons rfl (V1.t (V1.move' z_C) ?_)
                      refine TL.cons rfl (V1.t (V1.indexAddrS ty_44 sz_3 rfl rfl (by omega) (by omega)) ?_)
                      refine TL.cons rfl (V1.t (V1.load1 (v := .int .i64 2) one_3 rfl (show Rd _ _ ⟨_, _ + i * 1, none⟩ _ from by rw [Nat.mul_one]; exact hrdk _ rfl rfl _ z_B i _ (by rw [List.getElem?_map, hx0]; rfl))) ?_)
                      refine TL.cons rfl (V1.t (V1.eqI (r := false) rfl rfl (by decide)) ?_)
                      refine TL.nil ?_
                      refine T.cond_f rfl ?_
                      refine T.skip ?_
                      refine T.region ?_
                      refine TL.cons rfl (V1.t (V1.move' z_C) ?_)
                      refine TL.cons rfl (V1.t (V1.add (c := ((i + 1 : Nat) : Int)) rfl rfl (by rw [wrap_i64 _ (by omega) (by omega)]; omega)) ?_)
                      refine TL.cons rfl (V1.t (V1.assign' z_C) ?_)
                      refine TL.nil ?_
                      have hstep : s.step 2 (w1 : Int) = (0, s.turn (delN s.names w1)) := step_del hw6 rfl hin
                      have hI2 : SgInv (i + 1) (s.turn (delN s.names w1)) := by have h_ := hI.step 2 (w1 : Int); rw [hstep] at h_; exact h_
                      have hky2 : (s.turn (delN s.names w1)).keys.length ≤ i + 1 := by have h_ := keys_step s 2 (w1 : Int); rw [hstep] at h_; simp only at h_; omega
                      have hrun2 : Sg.init.runs es = (s.turn (delN s.names w1)).runs (es.drop (i + 1)) := by rw [hrun, drop_ev hx0, runs_ok (by rw [hstep]), hstep]
                      exact ⟨(i + 1, s.turn (delN s.names w1), vt, vk2, vx, vb, vy), Lt ++ (Lk2 ++ (Lb ++ (Ly ++ (Lx ++ (Q ++ G))))), _, (by simp only; omega), (.cons rfl (.cons rfl (.cons rfl (.cons rfl (.cons rfl (.cons rfl (.cons rfl (.cons rfl .nil)))))))), (.cons rfl (.cons rfl .nil)), z_A, ⟨⟨Lt, Lk2, Lb, Ly, Lx ++ Q, xs, by simp only [List.append_assoc], hst, htm, hxA.more (Inc.skip Inc.refl), hsk2, hrn2, hsb, hsy⟩, by simp only; omega, hI2, hky2, hrun2⟩⟩
                  ·
                    refine T.live (l := [(0, _), (1, _), (8, _), (9, _), (10, _), (11, _), (12, _), (13, _), (14, _), (16, _), (17, _), (18, _)]) (.cons z_C (.cons z_C (.cons z_C (.cons z_C (.cons z_C (.cons z_C (.cons z_C (.cons z_C (.cons z_C (.cons z_C (.cons z_C (.cons z_C .nil)))))))))))) (fun e_ => ?_)
                    refine T.region ?_
                    refine TL.cons rfl (V1.t (V1.move' z_C) ?_)
                    refine TL.cons rfl (V1.t (V1.move' z_C) ?_)
                    refine TL.cons rfl (V1.t (V1.indexAddrS ty_44 sz_3 rfl rfl (by omega) (by omega)) ?_)
                    refine TL.cons rfl (V1.t (V1.load1 (v := .int .i64 3) one_3 rfl (show Rd _ _ ⟨_, _ + i * 1, none⟩ _ from by rw [Nat.mul_one]; exact hrdk _ rfl rfl _ z_B i _ (by rw [List.getElem?_map, hx0]; rfl))) ?_)
                    refine TL.cons rfl (V1.t (V1.eqI (r := false) rfl rfl (by decide)) ?_)
                    refine TL.cons rfl (V1.t (V1.move' z_C) ?_)
                    refine TL.no rfl ?_
                    refine TL.no rfl ?_
                    refine TL.cons rfl (V1.t (V1.pick rfl z_C) ?_)
                    refine TL.cons rfl (V1.t (V1.move' z_C) ?_)
                    refine TL.cons rfl (V1.t (V1.move' z_C) ?_)
                    refine TL.cons rfl (V1.t (V1.move' z_C) ?_)
                    refine TL.cons rfl (V1.t (V1.indexAddrS ty_44 sz_3 rfl rfl (by omega) (by omega)) ?_)
                    refine TL.cons rfl (V1.t (V1.load1 (v := .int .i64 3) one_3 rfl (show Rd _ _ ⟨_, _ + i * 1, none⟩ _ from by rw [Nat.mul_one]; exact hrdk _ rfl rfl _ z_B i _ (by rw [List.getElem?_map, hx0]; rfl))) ?_)
                    refine TL.cons rfl (V1.t (V1.eqI (r := false) rfl rfl (by decide)) ?_)
                    refine TL.cons rfl (V1.t (V1.move' z_C) ?_)
                    refine TL.no rfl ?_
                    refine TL.cons rfl (V1.t (V1.pick rfl z_C) ?_)
                    refine TL.cons rfl (V1.t (V1.pick rfl z_C) ?_)
                    refine TL.nil ?_
                    refine T.cond_f rfl ?_
                    refine T.skip ?_
                    refine T.seq ?_
                    refine T.seq ?_
                    refine T.live (l := [(0, _), (1, _), (8, _), (9, _), (10, _), (11, _), (12, _), (13, _), (14, _), (16, _), (17, _), (18, _)]) (.cons z_C (.cons z_C (.cons z_C (.cons z_C (.cons z_C (.cons z_C (.cons z_C (.cons z_C (.cons z_C (.cons z_C (.cons z_C (.cons z_C .nil)))))))))))) (fun e_ => ?_)
                    refine T.region ?_
                    refine TL.cons rfl (V1.t (V1.move' z_C) ?_)
                    refine TL.cons rfl (V1.t (V1.move' z_C) ?_)
                    refine TL.cons rfl (V1.t (V1.indexAddrS ty_44 sz_3 rfl rfl (by omega) (by omega)) ?_)
                    refine TL.cons rfl (V1.t (V1.load1 (v := .int .i64 3) one_3 rfl (show Rd _ _ ⟨_, _ + i * 1, none⟩ _ from by rw [Nat.mul_one]; exact hrdk _ rfl rfl _ z_B i _ (by rw [List.getElem?_map, hx0]; rfl))) ?_)
                    refine TL.cons rfl (V1.t (V1.eqI (r := true) rfl rfl (by decide)) ?_)
                    refine TL.cons rfl (V1.t (V1.move' z_C) ?_)
                    refine TL.cons rfl (V1.t (V1.move' z_C) ?_)
                    refine TL.cons rfl (V1.t (V1.pick rfl z_C) ?_)
                    refine TL.nil ?_
                    refine T.cond_t rfl ?_
                    refine T.seq ?_
                    refine T.region ?_
                    refine TL.cons rfl (V1.t (V1.move' z_C) ?_)
                    refine TL.cons rfl (V1.t (V1.add (c := ((s.says + 1 : Nat) : Int)) rfl rfl (by rw [wrap_i64 _ (by omega) (by omega)]; omega)) ?_)
                    have hds := dgN_len (s.says + 1)
                    have hix := ix_len (s.says + 1)
                    have htx := tx_len (s.says + 1)
                    have hlk := lnk_len w1 s.epoch
                    refine TL.cons rfl (V1.t (V1.assign' z_C) ?_)
                    refine TL.nil ?_
                    refine T.seq ?_
                    refine T.region ?_
                    refine TL.cons rfl (V1.t (V1.move' z_C) ?_)
                    refine TL.cons rfl (V1.t (V1.move' z_C) ?_)
                    refine TL.cons rfl (V1.t (V1.move' z_C) ?_)
                    refine TL.cons rfl (V1.t (V1.move' z_C) ?_)
                    refine TL.cons rfl (T1.callV has_53 rfl rfl (digits_any w0 (s.says + 1) (by omega)) z_B (fun v_ hv => ?_))
                    obtain rfl := hv
                    refine TL.cons rfl (V1.t (V1.addSr (a := [116, 101, 120, 116]) (b := dgN (s.says + 1)) rfl rfl (by (try simp only [List.length_append, List.length_cons, List.length_nil]); omega) rfl) ?_)
                    refine TL.cons rfl (V1.t (V1.addSr (b := [120]) (r := nmb sText [s.says + 1]) rfl rfl (by (try simp only [List.length_append, List.length_cons, List.length_nil]); omega) (txt_text2 _)) ?_)
                    refine TL.cons rfl (V1.t (V1.buildF pl_57 zr_57 (.one rfl z_C rfl (.one rfl z_C rfl (.one rfl z_C rfl (.one rfl z_C rfl .nil)))) z_H) ?_)
                    refine TL.cons rfl (T1.allocN 5 zr_57 rfl (fun b21 => ?_))
                    refine TL.cons rfl (T1.storeN rfl rfl sz_57 (ones rfl) z_G (by rfl) (by rfl) ?_)
                    refine TL.nil ?_
                    refine T.seq ?_
                    refine T.live (l := [(0, _), (1, _), (8, _), (9, _), (10, _), (11, _), (12, _), (13, _), (14, _), (16, _), (17, _), (18, _), (21, _)]) (.cons z_C (.cons z_C (.cons z_C (.cons z_C (.cons z_C (.cons z_C (.cons z_C (.cons z_C (.cons z_C (.cons z_C (.cons z_C (.cons z_C (.cons z_C .nil))))))))))))) (fun e_ => ?_)
                    refine T.region ?_
                    refine TL.cons rfl (V1.t (V1.move' z_C) ?_)
                    refine TL.cons rfl (V1.t (V1.loadN (vs := [iV w1, iV s.epoch, .slice an s.names.length cn, .string (bstr (nmb sText [s.says + 1])), .bool false]) one_57 sz_57 rfl (RdN.whole z_D) rfl) ?_)
                    refine TL.cons rfl (T1.buildOne (cs := [iV w1, iV s.epoch, .slice an s.names.length cn, .string (bstr (nmb sText [s.says + 1])), .bool false]) ty_49 sz_57 zr_57 (by decide) rfl (by rfl) (fun b144 => ?_))
                    refine TL.cons rfl (T1.append ty_49 kd_49 sz_57 by_57 zr_57 rfl (by decide) (by decide) rfl rfl hst (.sl (vs := [iV w1, iV s.epoch, .slice an s.names.length cn, .string (bstr (nmb sText [s.says + 1])), .bool false]) (RdN.at0 z_D) (by rfl)) (ones rfl) 1000 (by rw [tdX_len]; show _ + 5 ≤ _; omega) (by decide) z_E (fun vt2 Lt2 hst2 => ?_))
                    refine TL.cons rfl (V1.t (V1.assign' z_C) ?_)
                    refine TL.nil ?_
                    refine T.seq ?_
                    refine T.region ?_
                    refine TL.cons rfl (V1.t (V1.move' z_C) ?_)
                    refine TL.cons rfl (T1.callV has_53 rfl rfl (digits_any w0 (s.says + 1) (by omega)) z_B (fun v_ hv => ?_))
                    obtain rfl := hv
                    refine TL.cons rfl (V1.t (V1.addSr (a := [105, 110, 100, 101, 120]) (b := dgN (s.says + 1)) rfl rfl (by (try simp only [List.length_append, List.length_cons, List.length_nil]); omega) rfl) ?_)
                    refine TL.cons rfl (V1.t (V1.addSr (b := [120]) (r := txt (indexT (s.says + 1))) rfl rfl (by (try simp only [List.length_append, List.length_cons, List.length_nil]); omega) (txt_index2 _)) ?_)
                    refine TL.cons rfl (V1.t (V1.assign' z_C) ?_)
                    refine TL.nil ?_
                    refine T.seq ?_
                    refine T.region ?_
                    refine TL.cons rfl (V1.t (V1.move' z_C) ?_)
                    refine TL.cons rfl (V1.t (V1.move' z_C) ?_)
                    refine TL.cons rfl (T1.buildSl1 (os := [.tmp 151]) ty_50 sz_9 zr_9 (by decide) rfl (.cons (v := kV (indexT (s.says + 1))) rfl .nil) rfl (ones rfl) (fun b152 => ?_))
                    refine TL.cons rfl (T1.append ty_50 kd_50 sz_9 by_9 zr_9 rfl (by decide) (by decide) rfl rfl hsk (.sl (vs := [kV (indexT (s.says + 1))]) (RdN.at0 z_D) (by rfl)) (ones rfl) 2000 (by rw [List.length_map]; show _ + 1 ≤ _; omega) (by decide) z_E (fun vk2 Lk2 hsk2 => ?_))
                    refine TL.cons rfl (V1.t (V1.assign' z_C) ?_)
                    refine TL.nil ?_
                    refine T.live (l := [(0, _), (1, _), (8, _), (9, _), (10, _), (11, _), (12, _), (13, _), (14, _), (16, _), (17, _), (18, _), (21, _), (22, _)]) (.cons z_C (.cons z_C (.cons z_C (.cons z_C (.cons z_C (.cons z_C (.cons z_C (.cons z_C (.cons z_C (.cons z_C (.cons z_C (.cons z_C (.cons z_C (.cons z_C .nil)))))))))))))) (fun e_ => ?_)
                    refine T.drawK (fun L_ => Find L_ (⟨b21, 0, [iV w1, iV s.epoch, .slice an s.names.length cn, .string (bstr (nmb sText [s.says + 1])), .bool false], 5⟩ : Blk)) mixed z_D ?_
                    refine TK.take 0 rfl (by decide +kernel) (by decide +kernel) (by decide +kernel) rfl (fun _ _ _ h => h) (fun L_ k1_ => V1.move' z_C) ?_
                    refine TK.take 1 rfl (by decide +kernel) (by decide +kernel) (by decide +kernel) rfl (fun _ _ _ h => h) (fun L_ k1_ => V1.move' z_C) ?_
                    refine TK.take 5 rfl (by decide +kernel) (by decide +kernel) (by decide +kernel) rfl (fun _ _ _ h => h) (fun L_ k1_ => V1.move' z_C) ?_
                    refine TK.take 6 rfl (by decide +kernel) (by decide +kernel) (by decide +kernel) rfl (fun _ _ _ h => h) (fun L_ k1_ => V1.move' z_C) ?_
                    refine TK.take 10 rfl (by decide +kernel) (by decide +kernel) (by decide +kernel) rfl (fun _ _ _ h => h) (fun L_ k1_ => V1.move' z_C) ?_
                    refine TK.take 13 rfl (by decide +kernel) (by decide +kernel) (by decide +kernel) rfl (fun _ _ _ h => h) (fun L_ k1_ => V1.fieldAddr fl_57_3 rfl) ?_
                    refine TK.take 14 rfl (by decide +kernel) (by decide +kernel) (by decide +kernel) rfl (fun _ _ _ h => h) (fun L_ k1_ => V1.load1 (v := .string (bstr (nmb sText [s.says + 1]))) one_9 rfl (.own z_D (by rfl))) ?_
                    refine TK.one 2 (by decide +kernel) rfl rfl (T1.callV has_53 rfl rfl (digits_any w0 w1 hw99) z_B (fun v_ hv => ?_))
                    obtain rfl := hv
                    refine ⟨z_D, ?_⟩
                    refine TK.take 3 rfl (by decide +kernel) (by decide +kernel) (by decide +kernel) rfl (fun _ _ _ h => h) (fun L_ k1_ => V1.addSr (a := [103, 40, 111, 119, 110]) (b := dgN w1) rfl rfl (by (try simp only [List.length_append, List.length_cons, List.length_nil]); omega) rfl) ?_
                    refine TK.take 4 rfl (by decide +kernel) (by decide +kernel) (by decide +kernel) rfl (fun _ _ _ h => h) (fun L_ k1_ => V1.addSr (b := [120, 44, 115, 40, 104, 112, 111, 115, 116, 40]) rfl rfl (by (try simp only [List.length_append, List.length_cons, List.length_nil]); omega) rfl) ?_
                    refine TK.one 7 (by decide +kernel) rfl rfl (T1.callV has_56 rfl rfl (rlink_any w0 w1 s.epoch hw99 (by omega)) z_B (fun v_ hv => ?_))
                    obtain rfl := hv
                    refine ⟨z_D, ?_⟩
                    refine TK.take 8 rfl (by decide +kernel) (by decide +kernel) (by decide +kernel) rfl (fun _ _ _ h => h) (fun L_ k1_ => V1.addSr rfl rfl (by (try simp only [List.length_append, List.length_cons, List.length_nil]); omega) rfl) ?_
                    refine TK.take 9 rfl (by decide +kernel) (by decide +kernel) (by decide +kernel) rfl (fun _ _ _ h => h) (fun L_ k1_ => V1.addSr (b := [44]) rfl rfl (by (try simp only [List.length_append, List.length_cons, List.length_nil]); omega) rfl) ?_
                    refine TK.take 11 rfl (by decide +kernel) (by decide +kernel) (by decide +kernel) rfl (fun _ _ _ h => h) (fun L_ k1_ => V1.addSr rfl rfl (by (try simp only [List.length_append, List.length_cons, List.length_nil]); omega) rfl) ?_
                    refine TK.take 12 rfl (by decide +kernel) (by decide +kernel) (by decide +kernel) rfl (fun _ _ _ h => h) (fun L_ k1_ => V1.addSr (b := [41, 44]) rfl rfl (by (try simp only [List.length_append, List.length_cons, List.length_nil]); omega) rfl) ?_
                    refine TK.take 15 rfl (by decide +kernel) (by decide +kernel) (by decide +kernel) rfl (fun _ _ _ h => h) (fun L_ k1_ => V1.addSr rfl rfl (by (try simp only [List.length_append, List.length_cons, List.length_nil]); omega) rfl) ?_
                    refine TK.take 16 rfl (by decide +kernel) (by decide +kernel) (by decide +kernel) rfl (fun _ _ _ h => h) (fun L_ k1_ => V1.addSr (b := [41, 41]) (r := txt (msgT w1 s.epoch (s.says + 1))) rfl rfl (by (try simp only [List.length_append, List.length_cons, List.length_nil]); omega) (txt_msg2 _ _ _)) ?_
                    refine TK.one 17 (by decide +kernel) rfl rfl (T1.buildSl1 (os := [.tmp 170]) ty_50 sz_9 zr_9 (by decide) rfl (.cons (v := kV (msgT w1 s.epoch (s.says + 1))) rfl .nil) rfl (ones rfl) (fun b171 => ?_))
                    refine ⟨z_D, ?_⟩
                    refine TK.one 18 (by decide +kernel) rfl rfl (T1.append ty_50 kd_50 sz_9 by_9 zr_9 rfl (by decide) (by decide) rfl rfl hsk2 (.sl (vs := [kV (msgT w1 s.epoch (s.says + 1))]) (RdN.at0 z_D) (by rfl)) (ones rfl) 2000 (by rw [List.length_append, List.length_map]; show _ + 1 + 1 ≤ _; omega) (by decide) z_E (fun vk3 Lk3 hsk3 => ?_))
                    refine ⟨z_D, ?_⟩
                    refine TK.take 19 rfl (by decide +kernel) (by decide +kernel) (by decide +kernel) rfl (fun _ _ _ h => h) (fun L_ k1_ => V1.assign' z_C) ?_
                    refine TD.done (by decide +kernel) ?_
                    refine T.seq ?_
                    refine T.live (l := [(0, _), (1, _), (8, _), (9, _), (10, _), (11, _), (12, _), (13, _), (14, _), (16, _), (17, _), (18, _)]) (.cons z_C (.cons z_C (.cons z_C (.cons z_C (.cons z_C (.cons z_C (.cons z_C (.cons z_C (.cons z_C (.cons z_C (.cons z_C (.cons z_C .nil)))))))))))) (fun e_ => ?_)
                    refine T.region ?_
                    refine TL.cons rfl (V1.t (V1.move' z_C) ?_)
                    refine TL.cons rfl (V1.t (V1.move' z_C) ?_)
                    refine TL.cons rfl (V1.t (V1.indexAddrS ty_44 sz_3 rfl rfl (by omega) (by omega)) ?_)
                    refine TL.cons rfl (V1.t (V1.load1 (v := .int .i64 3) one_3 rfl (show Rd _ _ ⟨_, _ + i * 1, none⟩ _ from by rw [Nat.mul_one]; exact hrdk _ rfl rfl _ z_B i _ (by rw [List.getElem?_map, hx0]; rfl))) ?_)
                    refine TL.cons rfl (V1.t (V1.eqI (r := false) rfl rfl (by decide)) ?_)
                    refine TL.nil ?_
                    refine T.cond_f rfl ?_
                    refine T.skip ?_
                    refine T.region ?_
                    refine TL.cons rfl (V1.t (V1.move' z_C) ?_)
                    refine TL.cons rfl (V1.t (V1.add (c := ((i + 1 : Nat) : Int)) rfl rfl (by rw [wrap_i64 _ (by omega) (by omega)]; omega)) ?_)
                    refine TL.cons rfl (V1.t (V1.assign' z_C) ?_)
                    refine TL.nil ?_
                    have hstep : s.step 3 (w1 : Int) = (0, s.say w1) := step_say hw6 rfl hin
                    have hI2 : SgInv (i + 1) (s.say w1) := by have h_ := hI.step 3 (w1 : Int); rw [hstep] at h_; exact h_
                    have hky2 : (s.say w1).keys.length ≤ i + 1 := by have h_ := keys_step s 3 (w1 : Int); rw [hstep] at h_; simp only at h_; omega
                    have hrun2 : Sg.init.runs es = (s.say w1).runs (es.drop (i + 1)) := by rw [hrun, drop_ev hx0, runs_ok (by rw [hstep]), hstep]
                    exact ⟨(i + 1, s.say w1, vt2, vk3, .slice an s.names.length cn, vb, vy), Lt2 ++ (Lk3 ++ (Lb ++ (Ly ++ (Q ++ G)))), _, (by simp only; omega), (.cons rfl (.cons rfl (.cons rfl (.cons rfl (.cons rfl (.cons rfl (.cons rfl (.cons rfl .nil)))))))), (.cons rfl (.cons rfl .nil)), z_A, ⟨⟨Lt2, Lk3, Lb, Ly, Q, xs ++ [⟨⟨w1, s.epoch, s.names, s.says + 1⟩, false, an, cn⟩], rfl, by rw [tdX_app]; exact hst2, by rw [List.map_append, htm]; rfl, hxA.snoc hrn, by show Sl vk3 ((s.known ++ [indexT (s.says + 1), msgT w1 s.epoch (s.says + 1)]).map kV) 1 Lk3; rw [List.map_append]; have h_ := hsk3; rw [List.append_assoc] at h_; exact h_, hrn, hsb, hsy⟩, by simp only; omega, hI2, hky2, hrun2⟩⟩
                  ·
                    refine T.live (l := [(0, _), (1, _), (8, _), (9, _), (10, _), (11, _), (12, _), (13, _), (14, _), (16, _), (17, _), (18, _)]) (.cons z_C (.cons z_C (.cons z_C (.cons z_C (.cons z_C (.cons z_C (.cons z_C (.cons z_C (.cons z_C (.cons z_C (.cons z_C (.cons z_C .nil)))))))))))) (fun e_ => ?_)
                    refine T.region ?_
                    refine TL.cons rfl (V1.t (V1.move' z_C) ?_)
                    refine TL.cons rfl (V1.t (V1.move' z_C) ?_)
                    refine TL.cons rfl (V1.t (V1.indexAddrS ty_44 sz_3 rfl rfl (by omega) (by omega)) ?_)
                    refine TL.cons rfl (V1.t (V1.load1 (v := .int .i64 4) one_3 rfl (show Rd _ _ ⟨_, _ + i * 1, none⟩ _ from by rw [Nat.mul_one]; exact hrdk _ rfl rfl _ z_B i _ (by rw [List.getElem?_map, hx0]; rfl))) ?_)
                    refine TL.cons rfl (V1.t (V1.eqI (r := false) rfl rfl (by decide)) ?_)
                    refine TL.cons rfl (V1.t (V1.move' z_C) ?_)
                    refine TL.no rfl ?_
                    refine TL.no rfl ?_
                    refine TL.cons rfl (V1.t (V1.pick rfl z_C) ?_)
                    refine TL.cons rfl (V1.t (V1.move' z_C) ?_)
                    refine TL.cons rfl (V1.t (V1.move' z_C) ?_)
                    refine TL.cons rfl (V1.t (V1.move' z_C) ?_)
                    refine TL.cons rfl (V1.t (V1.indexAddrS ty_44 sz_3 rfl rfl (by omega) (by omega)) ?_)
                    refine TL.cons rfl (V1.t (V1.load1 (v := .int .i64 4) one_3 rfl (show Rd _ _ ⟨_, _ + i * 1, none⟩ _ from by rw [Nat.mul_one]; exact hrdk _ rfl rfl _ z_B i _ (by rw [List.getElem?_map, hx0]; rfl))) ?_)
                    refine TL.cons rfl (V1.t (V1.eqI (r := false) rfl rfl (by decide)) ?_)
                    refine TL.cons rfl (V1.t (V1.move' z_C) ?_)
                    refine TL.no rfl ?_
                    refine TL.cons rfl (V1.t (V1.pick rfl z_C) ?_)
                    refine TL.cons rfl (V1.t (V1.pick rfl z_C) ?_)
                    refine TL.nil ?_
                    refine T.cond_f rfl ?_
                    refine T.skip ?_
                    refine T.seq ?_
                    refine T.seq ?_
                    refine T.live (l := [(0, _), (1, _), (8, _), (9, _), (10, _), (11, _), (12, _), (13, _), (14, _), (16, _), (17, _), (18, _)]) (.cons z_C (.cons z_C (.cons z_C (.cons z_C (.cons z_C (.cons z_C (.cons z_C (.cons z_C (.cons z_C (.cons z_C (.cons z_C (.cons z_C .nil)))))))))))) (fun e_ => ?_)
                    refine T.region ?_
                    refine TL.cons rfl (V1.t (V1.move' z_C) ?_)
                    refine TL.cons rfl (V1.t (V1.move' z_C) ?_)
                    refine TL.cons rfl (V1.t (V1.indexAddrS ty_44 sz_3 rfl rfl (by omega) (by omega)) ?_)
                    refine TL.cons rfl (V1.t (V1.load1 (v := .int .i64 4) one_3 rfl (show Rd _ _ ⟨_, _ + i * 1, none⟩ _ from by rw [Nat.mul_one]; exact hrdk _ rfl rfl _ z_B i _ (by rw [List.getElem?_map, hx0]; rfl))) ?_)
                    refine TL.cons rfl (V1.t (V1.eqI (r := false) rfl rfl (by decide)) ?_)
                    refine TL.cons rfl (V1.t (V1.move' z_C) ?_)
                    refine TL.no rfl ?_
                    refine TL.cons rfl (V1.t (V1.pick rfl z_C) ?_)
                    refine TL.nil ?_
                    refine T.cond_f rfl ?_
                    refine T.skip ?_
                    refine T.seq ?_
                    refine T.region ?_
                    refine TL.cons rfl (V1.t (V1.move' z_C) ?_)
                    refine TL.cons rfl (V1.t (V1.move' z_C) ?_)
                    refine TL.cons rfl (V1.t (V1.indexAddrS ty_44 sz_3 rfl rfl (by omega) (by omega)) ?_)
                    refine TL.cons rfl (V1.t (V1.load1 (v := .int .i64 4) one_3 rfl (show Rd _ _ ⟨_, _ + i * 1, none⟩ _ from by rw [Nat.mul_one]; exact hrdk _ rfl rfl _ z_B i _ (by rw [List.getElem?_map, hx0]; rfl))) ?_)
                    refine TL.cons rfl (V1.t (V1.eqI (r := true) rfl rfl (by decide)) ?_)
                    refine TL.nil ?_
                    refine T.cond_t rfl ?_
                    refine T.cut (σ := Value × List Blk) (l0 := [(0, _), (1, _), (8, _), (9, _), (10, _), (12, _), (13, _), (14, _), (16, _), (17, _), (18, _)]) (fun x => [(11, x.1)]) (fun x L => L = Lt ++ (Lk ++ (x.2 ++ (Ly ++ (Q ++ G)))) ∧ Sl x.1 ((s.lay w1).bare.map iV) 1 x.2) (.cons z_C (.cons z_C (.cons z_C (.cons z_C (.cons z_C (.cons z_C (.cons z_C (.cons z_C (.cons z_C (.cons z_C (.cons z_C .nil))))))))))) ?_ ?_
                    ·
                      refine T.seq ?_
                      refine T.region ?_
                      refine TL.cons rfl (V1.t (V1.move' z_C) ?_)
                      refine TL.cons rfl (V1.t (V1.move' z_C) ?_)
                      refine TL.cons rfl (T1.callV has_54 rfl rfl (rhas_any w0 Lb hrb (by omega) w1) z_B (fun v_ hv => ?_))
                      obtain rfl := hv
                      rcases Classical.em (w1 ∈ s.bare) with hbr | hbr
                      ·
                        rw [decide_eq_true hbr]
                        refine TL.cons rfl (V1.t (V1.not rfl rfl) ?_)
                        refine TL.nil ?_
                        refine T.cond_f rfl ?_
                        refine T.skip ?_
                        exact ⟨(vb, Lb), _, _, trivial, (.cons rfl .nil), (.cons rfl (.cons rfl (.cons rfl (.cons rfl (.cons rfl (.cons rfl (.cons rfl (.cons rfl (.cons rfl (.cons rfl (.cons rfl .nil))))))))))), z_A, ⟨rfl, by rw [lay_bare, if_pos hbr]; exact hsb⟩⟩
                      ·
                        rw [decide_eq_false hbr]
                        refine TL.cons rfl (V1.t (V1.not rfl rfl) ?_)
                        refine TL.nil ?_
                        refine T.cond_t rfl ?_
                        refine T.live (l := [(0, _), (1, _), (8, _), (9, _), (10, _), (11, _), (12, _), (13, _), (14, _), (16, _), (17, _), (18, _)]) (.cons z_C (.cons z_C (.cons z_C (.cons z_C (.cons z_C (.cons z_C (.cons z_C (.cons z_C (.cons z_C (.cons z_C (.cons z_C (.cons z_C .nil)))))))))))) (fun e_ => ?_)
                        refine T.region ?_
                        refine TL.cons rfl (V1.t (V1.move' z_C) ?_)
                        refine TL.cons rfl (V1.t (V1.move' z_C) ?_)
                        refine TL.cons rfl (T1.buildSl1 (os := [.tmp 183]) ty_44 sz_3 zr_3 (by decide) rfl (.cons (v := iV w1) rfl .nil) rfl (ones rfl) (fun b184 => ?_))
                        refine TL.cons rfl (T1.append ty_44 kd_44 sz_3 by_3 zr_3 rfl (by decide) (by decide) rfl rfl hsb (.sl (vs := [iV w1]) (RdN.at0 z_D) (by rfl)) (ones rfl) 2000 (by rw [List.length_map]; show _ + 1 ≤ _; omega) (by decide) z_E (fun vb2 Lb2 hsb2 => ?_))
                        refine TL.cons rfl (V1.t (V1.assign' z_C) ?_)
                        refine TL.nil ?_
                        exact ⟨(vb2, Lb2), _, _, trivial, (.cons rfl .nil), (.cons rfl (.cons rfl (.cons rfl (.cons rfl (.cons rfl (.cons rfl (.cons rfl (.cons rfl (.cons rfl (.cons rfl (.cons rfl .nil))))))))))), z_A, ⟨rfl, by rw [lay_bare, if_neg hbr, List.map_append]; exact hsb2⟩⟩
                    ·
                      rintro ⟨vb2, Lb2⟩ e_ L ⟨rfl, hsb2⟩
                      simp only at hsb2
                      dsimp only
                      refine T.seq ?_
                      refine T.region ?_
                      refine TL.cons rfl (V1.t (V1.move' z_C) ?_)
                      refine TL.cons rfl (V1.t (V1.move' z_C) ?_)
                      refine TL.cons rfl (T1.callV has_53 rfl rfl (digits_any w0 w1 hw99) z_B (fun v_ hv => ?_))
                      obtain rfl := hv
                      refine TL.cons rfl (V1.t (V1.addSr (a := [111, 119, 110]) (b := dgN w1) rfl rfl (by (try simp only [List.length_append, List.length_cons, List.length_nil]); omega) rfl) ?_)
                      refine TL.cons rfl (V1.t (V1.addSr (b := [120]) (r := txt (ownT w1)) rfl rfl (by (try simp only [List.length_append, List.length_cons, List.length_nil]); omega) (txt_own2 _)) ?_)
                      refine TL.cons rfl (T1.buildSl1 (os := [.tmp 190]) ty_50 sz_9 zr_9 (by decide) rfl (.cons (v := kV (ownT w1)) rfl .nil) rfl (ones rfl) (fun b191 => ?_))
                      refine TL.cons rfl (T1.append ty_50 kd_50 sz_9 by_9 zr_9 rfl (by decide) (by decide) rfl rfl hsk (.sl (vs := [kV (ownT w1)]) (RdN.at0 z_D) (by rfl)) (ones rfl) 2000 (by rw [List.length_map]; show _ + 1 ≤ _; omega) (by decide) z_E (fun vk2 Lk2 hsk2 => ?_))
                      refine TL.cons rfl (V1.t (V1.assign' z_C) ?_)
                      refine TL.nil ?_
                      refine T.seq ?_
                      refine T.live (l := [(0, _), (1, _), (8, _), (9, _), (10, _), (11, _), (12, _), (13, _), (14, _), (16, _), (17, _), (18, _)]) (.cons z_C (.cons z_C (.cons z_C (.cons z_C (.cons z_C (.cons z_C (.cons z_C (.cons z_C (.cons z_C (.cons z_C (.cons z_C (.cons z_C .nil)))))))))))) (fun e_ => ?_)
                      refine T.region ?_
                      refine TL.cons rfl (V1.t (V1.move' z_C) ?_)
                      refine TL.nil ?_
                      refine T.cond_t rfl ?_
                      refine T.seq ?_
                      refine T.region ?_
                      refine TL.cons rfl (V1.t (V1.move' z_C) ?_)
                      refine TL.cons rfl (V1.t (V1.move' z_C) ?_)
                      refine TL.cons rfl (V1.t (V1.move' z_C) ?_)
                      refine TL.cons rfl (T1.callV has_56 rfl rfl (rlink_any w0 w1 s.epoch hw99 (by omega)) z_B (fun v_ hv => ?_))
                      obtain rfl := hv
                      rw [← kV_link]
                      refine TL.cons rfl (T1.buildSl1 (os := [.tmp 197]) ty_50 sz_9 zr_9 (by decide) rfl (.cons (v := kV (linkT w1 s.epoch)) rfl .nil) rfl (ones rfl) (fun b198 => ?_))
                      refine TL.cons rfl (T1.append ty_50 kd_50 sz_9 by_9 zr_9 rfl (by decide) (by decide) rfl rfl hsk2 (.sl (vs := [kV (linkT w1 s.epoch)]) (RdN.at0 z_D) (by rfl)) (ones rfl) 2000 (by rw [List.length_append, List.length_map]; show _ + 1 + 1 ≤ _; omega) (by decide) z_E (fun vk3 Lk3 hsk3 => ?_))
                      refine TL.cons rfl (V1.t (V1.assign' z_C) ?_)
                      refine TL.nil ?_
                      refine T.region ?_
                      refine TL.cons rfl (V1.t (V1.move' z_C) ?_)
                      refine TL.cons rfl (V1.t (V1.move' z_C) ?_)
                      refine TL.cons rfl (V1.t (V1.mul (c := ((w1 * 1000 : Nat) : Int)) rfl rfl (by rw [wrap_i64 _ (by omega) (by omega)]; omega)) ?_)
                      refine TL.cons rfl (V1.t (V1.move' z_C) ?_)
                      refine TL.cons rfl (V1.t (V1.add (c := ((w1 * 1000 + s.epoch : Nat) : Int)) rfl rfl (by rw [wrap_i64 _ (by omega) (by omega)]; omega)) ?_)
                      refine TL.cons rfl (T1.buildSl1 (os := [.tmp 204]) ty_44 sz_3 zr_3 (by decide) rfl (.cons (v := iV (kN (w1, s.epoch))) rfl .nil) rfl (ones rfl) (fun b205 => ?_))
                      refine TL.cons rfl (T1.append ty_44 kd_44 sz_3 by_3 zr_3 rfl (by decide) (by decide) rfl rfl hsy (.sl (vs := [iV (kN (w1, s.epoch))]) (RdN.at0 z_D) (by rfl)) (ones rfl) 2000 (by rw [List.length_map]; show _ + 1 ≤ _; omega) (by decide) z_E (fun vy2 Ly2 hsy2 => ?_))
                      refine TL.cons rfl (V1.t (V1.assign' z_C) ?_)
                      refine TL.nil ?_
                      refine T.live (l := [(0, _), (1, _), (8, _), (9, _), (10, _), (11, _), (12, _), (13, _), (14, _), (16, _)]) (.cons z_C (.cons z_C (.cons z_C (.cons z_C (.cons z_C (.cons z_C (.cons z_C (.cons z_C (.cons z_C (.cons z_C .nil)))))))))) (fun e_ => ?_)
                      refine T.region ?_
                      refine TL.cons rfl (V1.t (V1.move' z_C) ?_)
                      refine TL.cons rfl (V1.t (V1.add (c := ((i + 1 : Nat) : Int)) rfl rfl (by rw [wrap_i64 _ (by omega) (by omega)]; omega)) ?_)
                      refine TL.cons rfl (V1.t (V1.assign' z_C) ?_)
                      refine TL.nil ?_
                      have hstep : s.step 4 (w1 : Int) = (0, s.lay w1) := step_lay hw6 rfl
                      have hI2 : SgInv (i + 1) (s.lay w1) := by have h_ := hI.step 4 (w1 : Int); rw [hstep] at h_; exact h_
                      have hky2 : (s.lay w1).keys.length ≤ i + 1 := by have h_ := keys_step s 4 (w1 : Int); rw [hstep] at h_; simp only at h_; omega
                      have hrun2 : Sg.init.runs es = (s.lay w1).runs (es.drop (i + 1)) := by rw [hrun, drop_ev hx0, runs_ok (by rw [hstep]), hstep]
                      exact ⟨(i + 1, s.lay w1, vt, vk3, .slice an s.names.length cn, vb2, vy2), Lt ++ (Lk3 ++ (Lb2 ++ (Ly2 ++ (Q ++ G)))), _, (by simp only; omega), (.cons rfl (.cons rfl (.cons rfl (.cons rfl (.cons rfl (.cons rfl (.cons rfl (.cons rfl .nil)))))))), (.cons rfl (.cons rfl .nil)), z_A, ⟨⟨Lt, Lk3, Lb2, Ly2, Q, xs, rfl, hst, htm, hxA, by rw [lay_in hin, List.map_append, List.map_append]; exact hsk3, hrn, hsb2, by rw [lay_keys_in hin, List.map_append, List.map_append]; exact hsy2⟩, by simp only; omega, hI2, hky2, hrun2⟩⟩
                ·
                  rw [decide_eq_false hin]
                  refine TL.cons rfl (V1.t (V1.assign' z_C) ?_)
                  refine TL.nil ?_
                  refine T.seq ?_
                  refine T.seq ?_
                  obtain rfl | rfl | rfl | rfl : k = 1 ∨ k = 2 ∨ k = 3 ∨ k = 4 := by omega
                  ·
                    refine T.live (l := [(0, _), (1, _), (8, _), (9, _), (10, _), (11, _), (12, _), (13, _), (14, _), (16, _), (17, _), (18, _)]) (.cons z_C (.cons z_C (.cons z_C (.cons z_C (.cons z_C (.cons z_C (.cons z_C (.cons z_C (.cons z_C (.cons z_C (.cons z_C (.cons z_C .nil)))))))))))) (fun e_ => ?_)
                    refine T.region ?_
                    refine TL.cons rfl (V1.t (V1.move' z_C) ?_)
                    refine TL.cons rfl (V1.t (V1.move' z_C) ?_)
                    refine TL.cons rfl (V1.t (V1.indexAddrS ty_44 sz_3 rfl rfl (by omega) (by omega)) ?_)
                    refine TL.cons rfl (V1.t (V1.load1 (v := .int .i64 1) one_3 rfl (show Rd _ _ ⟨_, _ + i * 1, none⟩ _ from by rw [Nat.mul_one]; exact hrdk _ rfl rfl _ z_B i _ (by rw [List.getElem?_map, hx0]; rfl))) ?_)
                    refine TL.cons rfl (V1.t (V1.eqI (r := true) rfl rfl (by decide)) ?_)
                    refine TL.cons rfl (V1.t (V1.move' z_C) ?_)
                    refine TL.cons rfl (V1.t (V1.move' z_C) ?_)
                    refine TL.cons rfl (V1.t (V1.not rfl rfl) ?_)
                    refine TL.cons rfl (V1.t (V1.pick rfl z_C) ?_)
                    refine TL.cons rfl (V1.t (V1.move' z_C) ?_)
                    refine TL.no rfl ?_
                    refine TL.no rfl ?_
                    refine TL.no rfl ?_
                    refine TL.no rfl ?_
                    refine TL.no rfl ?_
                    refine TL.no rfl ?_
                    refine TL.no rfl ?_
                    refine TL.no rfl ?_
                    refine TL.cons rfl (V1.t (V1.pick rfl z_C) ?_)
                    refine TL.nil ?_
                    refine T.cond_t rfl ?_
                    refine T.seq ?_
                    refine T.live (l := [(0, _), (1, _), (8, _), (9, _), (10, _), (11, _), (12, _), (13, _), (14, _), (16, _), (17, _), (18, _)]) (.cons z_C (.cons z_C (.cons z_C (.cons z_C (.cons z_C (.cons z_C (.cons z_C (.cons z_C (.cons z_C (.cons z_C (.cons z_C (.cons z_C .nil)))))))))))) (fun e_ => ?_)
                    refine T.region ?_
                    refine TL.cons rfl (V1.t (V1.assign' z_C) ?_)
                    refine TL.nil ?_
                    refine T.seq ?_
                    refine T.seq ?_
                    refine T.region ?_
                    refine TL.cons rfl (V1.t (V1.assign' z_C) ?_)
                    refine TL.nil ?_
                    refine T.block ?_
                    refine T.loopL (σ := Nat × Value × List Blk) (l0 := [(0, _), (1, _), (8, _), (9, _), (10, _), (11, _), (12, _), (13, _), (14, _), (16, _), (17, _), (18, _)]) (fun x => [(20, .int .i64 ((x.1 + 1 : Nat) : Int)), (19, x.2.1)]) (fun x L => L = x.2.2 ++ (Lt ++ (Lk ++ (Lb ++ (Ly ++ (Q ++ G))))) ∧ x.1 ≤ 6 ∧ Sl x.2.1 ((nx s w1 true x.1).map iV) 1 x.2.2) (fun x => 6 - x.1) (0, .slice none 0 0, []) (.cons rfl (.cons rfl .nil)) (.cons z_C (.cons z_C (.cons z_C (.cons z_C (.cons z_C (.cons z_C (.cons z_C (.cons z_C (.cons z_C (.cons z_C (.cons z_C (.cons z_C .nil)))))))))))) z_A (⟨rfl, Nat.zero_le _, Sl.nil⟩) ?_
                    rintro ⟨j, vx, Lx⟩ e_ L ⟨rfl, hj, hsx⟩
                    simp only at hj hsx
                    dsimp only
                    have hxn := nx_len (s := s) (w := w1) (a := true) (i := j)
                    refine T.seq ?_
                    refine T.seq ?_
                    refine T.region ?_
                    refine TL.cons rfl (V1.t (V1.move' z_C) ?_)
                    refine TL.cons rfl (T1.leI_split rfl rfl (fun h23 => ?_) (fun h23 => ?_))
                    ·
                      refine TL.nil ?_
                      refine T.cond_t rfl ?_
                      refine T.skip ?_
                      refine T.seq ?_
                      refine T.block ?_
                      refine T.seq ?_
                      refine T.region ?_
                      refine TL.cons rfl (V1.t (V1.move' z_C) ?_)
                      refine TL.cons rfl (V1.t (V1.move' z_C) ?_)
                      refine TL.cons rfl (T1.callV has_54 rfl rfl (rhas_any w0 Q hrn (by omega) (j + 1)) z_B (fun v_ hv => ?_))
                      obtain rfl := hv
                      rcases Classical.em ((j + 1) ∈ s.names) with hin3 | hin3
                      ·
                        rw [decide_eq_true hin3]
                        refine TL.cons rfl (V1.t (V1.move' z_C) ?_)
                        refine TL.cons rfl (V1.t (V1.move' z_C) ?_)
                        refine TL.cons rfl (V1.t (V1.move' z_C) ?_)
                        refine TL.cons rfl (T1.neI_split rfl rfl (fun h256 => ?_) (fun h256 => ?_))
                        ·
                          refine TL.cons rfl (V1.t (V1.pick rfl z_C) ?_)
                          refine TL.cons rfl (V1.t (V1.move' z_C) ?_)
                          refine TL.no rfl ?_
                          refine TL.no rfl ?_
                          refine TL.no rfl ?_
                          refine TL.no rfl ?_
                          refine TL.no rfl ?_
                          refine TL.no rfl ?_
                          refine TL.no rfl ?_
                          refine TL.no rfl ?_
                          refine TL.no rfl ?_
                          refine TL.no rfl ?_
                          refine TL.cons rfl (V1.t (V1.pick rfl z_C) ?_)
                          refine TL.nil ?_
                          refine T.cond_t rfl ?_
                          refine T.live (l := [(0, _), (1, _), (8, _), (9, _), (10, _), (11, _), (12, _), (13, _), (14, _), (16, _), (17, _), (18, _), (19, _), (20, _)]) (.cons z_C (.cons z_C (.cons z_C (.cons z_C (.cons z_C (.cons z_C (.cons z_C (.cons z_C (.cons z_C (.cons z_C (.cons z_C (.cons z_C (.cons z_C (.cons z_C .nil)))))))))))))) (fun e_ => ?_)
                          refine T.region ?_
                          refine TL.cons rfl (V1.t (V1.move' z_C) ?_)
                          refine TL.cons rfl (V1.t (V1.move' z_C) ?_)
                          refine TL.cons rfl (T1.buildSl1 (os := [.tmp 113]) ty_44 sz_3 zr_3 (by decide) rfl (.cons (v := iV (j + 1)) rfl .nil) rfl (ones rfl) (fun b114 => ?_))
                          refine TL.cons rfl (T1.append ty_44 kd_44 sz_3 by_3 zr_3 rfl (by decide) (by decide) rfl rfl hsx (.sl (vs := [iV (j + 1)]) (RdN.at0 z_D) (by rfl)) (ones rfl) 2000 (by rw [List.length_map]; show _ + 1 ≤ _; omega) (by decide) z_E (fun vx2 Lx2 hsx2 => ?_))
                          refine TL.cons rfl (V1.t (V1.assign' z_C) ?_)
                          refine TL.nil ?_
                          refine T.region ?_
                          refine TL.cons rfl (V1.t (V1.move' z_C) ?_)
                          refine TL.cons rfl (V1.t (V1.add (c := ((j + 1 + 1 : Nat) : Int)) rfl rfl (by rw [wrap_i64 _ (by omega) (by omega)]; omega)) ?_)
                          refine TL.cons rfl (V1.t (V1.assign' z_C) ?_)
                          refine TL.nil ?_
                          exact ⟨(j + 1, vx2, Lx2), Lx2 ++ (Lt ++ (Lk ++ (Lb ++ (Ly ++ (Q ++ G))))), _, (by simp only; omega), (.cons rfl (.cons rfl .nil)), (.cons rfl (.cons rfl (.cons rfl (.cons rfl (.cons rfl (.cons rfl (.cons rfl (.cons rfl (.cons rfl (.cons rfl (.cons rfl (.cons rfl .nil)))))))))))), z_A, ⟨rfl, by simp only; omega, by simp only; rw [nx_t (by omega) (.inl ⟨hin3, by omega⟩), List.map_append]; exact hsx2⟩⟩
                        ·
                          exact absurd hin3 (by rw [show j + 1 = w1 by omega]; exact hin)
                      ·
                        rw [decide_eq_false hin3]
                        refine TL.cons rfl (V1.t (V1.move' z_C) ?_)
                        refine TL.no rfl ?_
                        refine TL.no rfl ?_
                        refine TL.no rfl ?_
                        refine TL.cons rfl (V1.t (V1.pick rfl z_C) ?_)
                        refine TL.cons rfl (V1.t (V1.move' z_C) ?_)
                        refine TL.cons rfl (V1.t (V1.move' z_C) ?_)
                        refine TL.cons rfl (V1.t (V1.move' z_C) ?_)
                        refine TL.cons rfl (V1.t (V1.indexAddrS ty_44 sz_3 rfl rfl (by omega) (by omega)) ?_)
                        refine TL.cons rfl (V1.t (V1.load1 (v := .int .i64 1) one_3 rfl (show Rd _ _ ⟨_, _ + i * 1, none⟩ _ from by rw [Nat.mul_one]; exact hrdk _ rfl rfl _ z_B i _ (by rw [List.getElem?_map, hx0]; rfl))) ?_)
                        refine TL.cons rfl (V1.t (V1.eqI (r := true) rfl rfl (by decide)) ?_)
                        refine TL.cons rfl (V1.t (V1.move' z_C) ?_)
                        refine TL.cons rfl (V1.t (V1.move' z_C) ?_)
                        refine TL.cons rfl (V1.t (V1.move' z_C) ?_)
                        refine TL.cons rfl (T1.eqI_split rfl rfl (fun h2517 => ?_) (fun h2517 => ?_))
                        ·
                          refine TL.cons rfl (V1.t (V1.pick rfl z_C) ?_)
                          refine TL.cons rfl (V1.t (V1.pick rfl z_C) ?_)
                          refine TL.nil ?_
                          refine T.cond_t rfl ?_
                          refine T.live (l := [(0, _), (1, _), (8, _), (9, _), (10, _), (11, _), (12, _), (13, _), (14, _), (16, _), (17, _), (18, _), (19, _), (20, _)]) (.cons z_C (.cons z_C (.cons z_C (.cons z_C (.cons z_C (.cons z_C (.cons z_C (.cons z_C (.cons z_C (.cons z_C (.cons z_C (.cons z_C (.cons z_C (.cons z_C .nil)))))))))))))) (fun e_ => ?_)
                          refine T.region ?_
                          refine TL.cons rfl (V1.t (V1.move' z_C) ?_)
                          refine TL.cons rfl (V1.t (V1.move' z_C) ?_)
                          refine TL.cons rfl (T1.buildSl1 (os := [.tmp 113]) ty_44 sz_3 zr_3 (by decide) rfl (.cons (v := iV (j + 1)) rfl .nil) rfl (ones rfl) (fun b114 => ?_))
                          refine TL.cons rfl (T1.append ty_44 kd_44 sz_3 by_3 zr_3 rfl (by decide) (by decide) rfl rfl hsx (.sl (vs := [iV (j + 1)]) (RdN.at0 z_D) (by rfl)) (ones rfl) 2000 (by rw [List.length_map]; show _ + 1 ≤ _; omega) (by decide) z_E (fun vx2 Lx2 hsx2 => ?_))
                          refine TL.cons rfl (V1.t (V1.assign' z_C) ?_)
                          refine TL.nil ?_
                          refine T.region ?_
                          refine TL.cons rfl (V1.t (V1.move' z_C) ?_)
                          refine TL.cons rfl (V1.t (V1.add (c := ((j + 1 + 1 : Nat) : Int)) rfl rfl (by rw [wrap_i64 _ (by omega) (by omega)]; omega)) ?_)
                          refine TL.cons rfl (V1.t (V1.assign' z_C) ?_)
                          refine TL.nil ?_
                          exact ⟨(j + 1, vx2, Lx2), Lx2 ++ (Lt ++ (Lk ++ (Lb ++ (Ly ++ (Q ++ G))))), _, (by simp only; omega), (.cons rfl (.cons rfl .nil)), (.cons rfl (.cons rfl (.cons rfl (.cons rfl (.cons rfl (.cons rfl (.cons rfl (.cons rfl (.cons rfl (.cons rfl (.cons rfl (.cons rfl .nil)))))))))))), z_A, ⟨rfl, by simp only; omega, by simp only; rw [nx_t (by omega) (.inr ⟨rfl, by omega⟩), List.map_append]; exact hsx2⟩⟩
                        ·
                          refine TL.cons rfl (V1.t (V1.pick rfl z_C) ?_)
                          refine TL.cons rfl (V1.t (V1.pick rfl z_C) ?_)
                          refine TL.nil ?_
                          refine T.cond_f rfl ?_
                          refine T.skip ?_
                          refine T.live (l := [(0, _), (1, _), (8, _), (9, _), (10, _), (11, _), (12, _), (13, _), (14, _), (16, _), (17, _), (18, _), (19, _), (20, _)]) (.cons z_C (.cons z_C (.cons z_C (.cons z_C (.cons z_C (.cons z_C (.cons z_C (.cons z_C (.cons z_C (.cons z_C (.cons z_C (.cons z_C (.cons z_C (.cons z_C .nil)))))))))))))) (fun e_ => ?_)
                          refine T.region ?_
                          refine TL.cons rfl (V1.t (V1.move' z_C) ?_)
                          refine TL.cons rfl (V1.t (V1.add (c := ((j + 1 + 1 : Nat) : Int)) rfl rfl (by rw [wrap_i64 _ (by omega) (by omega)]; omega)) ?_)
                          refine TL.cons rfl (V1.t (V1.assign' z_C) ?_)
                          refine TL.nil ?_
                          exact ⟨(j + 1, vx, Lx), Lx ++ (Lt ++ (Lk ++ (Lb ++ (Ly ++ (Q ++ G))))), _, (by simp only; omega), (.cons rfl (.cons rfl .nil)), (.cons rfl (.cons rfl (.cons rfl (.cons rfl (.cons rfl (.cons rfl (.cons rfl (.cons rfl (.cons rfl (.cons rfl (.cons rfl (.cons rfl .nil)))))))))))), z_A, ⟨rfl, by simp only; omega, by simp only; rw [nx_f (by omega) (fun h => h.elim (fun h => hin3 h.1) (fun h => absurd h.2 (by omega)))]; exact hsx⟩⟩
                    ·
                      obtain rfl : j = 6 := by omega
                      rw [nx_add hI hw6 hin] at hsx hxn
                      have hrn2 := RowR.ofSl (w0 := w0) (Ps := Lx ++ Q) hsx Inc.here (by decide) (addN s.names w1).length (by simp)
                      refine TL.nil ?_
                      refine T.cond_f rfl ?_
                      refine T.exit ?_
                      refine T.seq ?_
                      refine T.region ?_
                      refine TL.cons rfl (V1.t (V1.move' z_C) ?_)
                      refine TL.cons rfl (V1.t (V1.assign' z_C) ?_)
                      refine TL.nil ?_
                      refine T.seq ?_
                      refine T.region ?_
                      refine TL.cons rfl (V1.t (V1.move' z_C) ?_)
                      refine TL.cons rfl (V1.t (V1.add (c := ((s.epoch + 1 : Nat) : Int)) rfl rfl (by rw [wrap_i64 _ (by omega) (by omega)]; omega)) ?_)
                      refine TL.cons rfl (V1.t (V1.assign' z_C) ?_)
                      refine TL.nil ?_
                      refine T.region ?_
                      refine TL.cons rfl (V1.t (V1.move' z_C) ?_)
                      refine TL.cons rfl (V1.t (V1.move' z_C) ?_)
                      refine TL.cons rfl (V1.t (V1.move' z_C) ?_)
                      refine TL.cons rfl (T1.callC has_55 rfl rfl (letters_any w0 (Lx ++ Q) hrn2 hxn (fun n hn => by have := addN_6 hn; omega) ((addN_asc _ _).imp fun h => Nat.ne_of_lt h) (s.epoch + 1) (by omega)) z_B (fun v_ Yl hY => ?_))
                      have hll := letters_len (e := s.epoch + 1) (addN_asc s.names w1) (fun n hn => addN_6 hn)
                      refine TL.cons rfl (T1.append ty_50 kd_50 sz_9 by_9 zr_9 rfl (by decide) (by decide) rfl rfl hsk ((RowR.ofSl (w0 := w0) (Ps := Yl) hY Inc.refl (by decide) _ (by rw [List.length_map, Nat.mul_one])).src _ rfl rfl _ z_B) (one_kV _) 2000 (by rw [List.length_map, List.length_map]; omega) (by decide) z_E (fun vk2 Lk2 hsk2 => ?_))
                      rw [← List.map_append] at hsk2
                      refine TL.cons rfl (V1.t (V1.assign' z_C) ?_)
                      refine TL.nil ?_
                      refine T.seq ?_
                      refine T.seq ?_
                      refine T.region ?_
                      refine TL.cons rfl (V1.t (V1.move' z_C) ?_)
                      refine TL.cons rfl (V1.t (V1.move' z_C) ?_)
                      refine TL.cons rfl (V1.t (V1.indexAddrS ty_44 sz_3 rfl rfl (by omega) (by omega)) ?_)
                      refine TL.cons rfl (V1.t (V1.load1 (v := .int .i64 1) one_3 rfl (show Rd _ _ ⟨_, _ + i * 1, none⟩ _ from by rw [Nat.mul_one]; exact hrdk _ rfl rfl _ z_B i _ (by rw [List.getElem?_map, hx0]; rfl))) ?_)
                      refine TL.cons rfl (V1.t (V1.eqI (r := false) rfl rfl (by decide)) ?_)
                      refine TL.cons rfl (V1.t (V1.move' z_C) ?_)
                      refine TL.no rfl ?_
                      refine TL.cons rfl (V1.t (V1.pick rfl z_C) ?_)
                      refine TL.nil ?_
                      refine T.cond_f rfl ?_
                      refine T.skip ?_
                      refine T.seq ?_
                      refine T.live (l := [(0, _), (1, _), (8, _), (9, _), (10, _), (11, _), (12, _), (13, _), (14, _), (16, _), (17, _), (18, _)]) (.cons z_C (.cons z_C (.cons z_C (.cons z_C (.cons z_C (.cons z_C (.cons z_C (.cons z_C (.cons z_C (.cons z_C (.cons z_C (.cons z_C .nil)))))))))))) (fun e_ => ?_)
                      refine T.region ?_
                      refine TL.cons rfl (V1.t (V1.move' z_C) ?_)
                      refine TL.cons rfl (V1.t (V1.move' z_C) ?_)
                      refine TL.cons rfl (V1.t (V1.indexAddrS ty_44 sz_3 rfl rfl (by omega) (by omega)) ?_)
                      refine TL.cons rfl (V1.t (V1.load1 (v := .int .i64 1) one_3 rfl (show Rd _ _ ⟨_, _ + i * 1, none⟩ _ from by rw [Nat.mul_one]; exact hrdk _ rfl rfl _ z_B i _ (by rw [List.getElem?_map, hx0]; rfl))) ?_)
                      refine TL.cons rfl (V1.t (V1.eqI (r := false) rfl rfl (by decide)) ?_)
                      refine TL.nil ?_
                      refine T.cond_f rfl ?_
                      refine T.skip ?_
                      refine T.region ?_
                      refine TL.cons rfl (V1.t (V1.move' z_C) ?_)
                      refine TL.cons rfl (V1.t (V1.add (c := ((i + 1 : Nat) : Int)) rfl rfl (by rw [wrap_i64 _ (by omega) (by omega)]; omega)) ?_)
                      refine TL.cons rfl (V1.t (V1.assign' z_C) ?_)
                      refine TL.nil ?_
                      have hstep : s.step 1 (w1 : Int) = (0, s.turn (addN s.names w1)) := step_add hw6 rfl hin
                      have hI2 : SgInv (i + 1) (s.turn (addN s.names w1)) := by have h_ := hI.step 1 (w1 : Int); rw [hstep] at h_; exact h_
                      have hky2 : (s.turn (addN s.names w1)).keys.length ≤ i + 1 := by have h_ := keys_step s 1 (w1 : Int); rw [hstep] at h_; simp only at h_; omega
                      have hrun2 : Sg.init.runs es = (s.turn (addN s.names w1)).runs (es.drop (i + 1)) := by rw [hrun, drop_ev hx0, runs_ok (by rw [hstep]), hstep]
                      exact ⟨(i + 1, s.turn (addN s.names w1), vt, vk2, vx, vb, vy), Lt ++ (Lk2 ++ (Lb ++ (Ly ++ (Lx ++ (Q ++ G))))), _, (by simp only; omega), (.cons rfl (.cons rfl (.cons rfl (.cons rfl (.cons rfl (.cons rfl (.cons rfl (.cons rfl .nil)))))))), (.cons rfl (.cons rfl .nil)), z_A, ⟨⟨Lt, Lk2, Lb, Ly, Lx ++ Q, xs, by simp only [List.append_assoc], hst, htm, hxA.more (Inc.skip Inc.refl), hsk2, hrn2, hsb, hsy⟩, by simp only; omega, hI2, hky2, hrun2⟩⟩
                  ·
                    refine T.live (l := [(0, _), (1, _), (8, _), (9, _), (10, _), (11, _), (12, _), (13, _), (14, _), (16, _), (17, _), (18, _)]) (.cons z_C (.cons z_C (.cons z_C (.cons z_C (.cons z_C (.cons z_C (.cons z_C (.cons z_C (.cons z_C (.cons z_C (.cons z_C (.cons z_C .nil)))))))))))) (fun e_ => ?_)
                    refine T.region ?_
                    refine TL.cons rfl (V1.t (V1.move' z_C) ?_)
                    refine TL.cons rfl (V1.t (V1.move' z_C) ?_)
                    refine TL.cons rfl (V1.t (V1.indexAddrS ty_44 sz_3 rfl rfl (by omega) (by omega)) ?_)
                    refine TL.cons rfl (V1.t (V1.load1 (v := .int .i64 2) one_3 rfl (show Rd _ _ ⟨_, _ + i * 1, none⟩ _ from by rw [Nat.mul_one]; exact hrdk _ rfl rfl _ z_B i _ (by rw [List.getElem?_map, hx0]; rfl))) ?_)
                    refine TL.cons rfl (V1.t (V1.eqI (r := false) rfl rfl (by decide)) ?_)
                    refine TL.cons rfl (V1.t (V1.move' z_C) ?_)
                    refine TL.no rfl ?_
                    refine TL.no rfl ?_
                    refine TL.cons rfl (V1.t (V1.pick rfl z_C) ?_)
                    refine TL.cons rfl (V1.t (V1.move' z_C) ?_)
                    refine TL.cons rfl (V1.t (V1.move' z_C) ?_)
                    refine TL.cons rfl (V1.t (V1.move' z_C) ?_)
                    refine TL.cons rfl (V1.t (V1.indexAddrS ty_44 sz_3 rfl rfl (by omega) (by omega)) ?_)
                    refine TL.cons rfl (V1.t (V1.load1 (v := .int .i64 2) one_3 rfl (show Rd _ _ ⟨_, _ + i * 1, none⟩ _ from by rw [Nat.mul_one]; exact hrdk _ rfl rfl _ z_B i _ (by rw [List.getElem?_map, hx0]; rfl))) ?_)
                    refine TL.cons rfl (V1.t (V1.eqI (r := true) rfl rfl (by decide)) ?_)
                    refine TL.cons rfl (V1.t (V1.move' z_C) ?_)
                    refine TL.cons rfl (V1.t (V1.move' z_C) ?_)
                    refine TL.cons rfl (V1.t (V1.pick rfl z_C) ?_)
                    refine TL.cons rfl (V1.t (V1.pick rfl z_C) ?_)
                    refine TL.nil ?_
                    refine T.cond_f rfl ?_
                    refine T.skip ?_
                    refine T.seq ?_
                    refine T.seq ?_
                    refine T.live (l := [(0, _), (1, _), (8, _), (9, _), (10, _), (11, _), (12, _), (13, _), (14, _), (16, _), (17, _), (18, _)]) (.cons z_C (.cons z_C (.cons z_C (.cons z_C (.cons z_C (.cons z_C (.cons z_C (.cons z_C (.cons z_C (.cons z_C (.cons z_C (.cons z_C .nil)))))))))))) (fun e_ => ?_)
                    refine T.region ?_
                    refine TL.cons rfl (V1.t (V1.move' z_C) ?_)
                    refine TL.cons rfl (V1.t (V1.move' z_C) ?_)
                    refine TL.cons rfl (V1.t (V1.indexAddrS ty_44 sz_3 rfl rfl (by omega) (by omega)) ?_)
                    refine TL.cons rfl (V1.t (V1.load1 (v := .int .i64 2) one_3 rfl (show Rd _ _ ⟨_, _ + i * 1, none⟩ _ from by rw [Nat.mul_one]; exact hrdk _ rfl rfl _ z_B i _ (by rw [List.getElem?_map, hx0]; rfl))) ?_)
                    refine TL.cons rfl (V1.t (V1.eqI (r := false) rfl rfl (by decide)) ?_)
                    refine TL.cons rfl (V1.t (V1.move' z_C) ?_)
                    refine TL.no rfl ?_
                    refine TL.cons rfl (V1.t (V1.pick rfl z_C) ?_)
                    refine TL.nil ?_
                    refine T.cond_f rfl ?_
                    refine T.skip ?_
                    refine T.seq ?_
                    refine T.region ?_
                    refine TL.cons rfl (V1.t (V1.move' z_C) ?_)
                    refine TL.cons rfl (V1.t (V1.move' z_C) ?_)
                    refine TL.cons rfl (V1.t (V1.indexAddrS ty_44 sz_3 rfl rfl (by omega) (by omega)) ?_)
                    refine TL.cons rfl (V1.t (V1.load1 (v := .int .i64 2) one_3 rfl (show Rd _ _ ⟨_, _ + i * 1, none⟩ _ from by rw [Nat.mul_one]; exact hrdk _ rfl rfl _ z_B i _ (by rw [List.getElem?_map, hx0]; rfl))) ?_)
                    refine TL.cons rfl (V1.t (V1.eqI (r := false) rfl rfl (by decide)) ?_)
                    refine TL.nil ?_
                    refine T.cond_f rfl ?_
                    refine T.skip ?_
                    refine T.region ?_
                    refine TL.cons rfl (V1.t (V1.move' z_C) ?_)
                    refine TL.cons rfl (V1.t (V1.add (c := ((i + 1 : Nat) : Int)) rfl rfl (by rw [wrap_i64 _ (by omega) (by omega)]; omega)) ?_)
                    refine TL.cons rfl (V1.t (V1.assign' z_C) ?_)
                    refine TL.nil ?_
                    have hstep : s.step 2 (w1 : Int) = (0, s) := step_none hw6 (by omega) (fun h => absurd h (by omega)) (fun h => hin)
                    have hI2 : SgInv (i + 1) (s) := by have h_ := hI.step 2 (w1 : Int); rw [hstep] at h_; exact h_
                    have hky2 : (s).keys.length ≤ i + 1 := by have h_ := keys_step s 2 (w1 : Int); rw [hstep] at h_; simp only at h_; omega
                    have hrun2 : Sg.init.runs es = (s).runs (es.drop (i + 1)) := by rw [hrun, drop_ev hx0, runs_ok (by rw [hstep]), hstep]
                    exact ⟨(i + 1, s, vt, vk, .slice an s.names.length cn, vb, vy), Lt ++ (Lk ++ (Lb ++ (Ly ++ (Q ++ G)))), _, (by simp only; omega), (.cons rfl (.cons rfl (.cons rfl (.cons rfl (.cons rfl (.cons rfl (.cons rfl (.cons rfl .nil)))))))), (.cons rfl (.cons rfl .nil)), z_A, ⟨⟨Lt, Lk, Lb, Ly, Q, xs, rfl, hst, htm, hxA, hsk, hrn, hsb, hsy⟩, by simp only; omega, hI2, hky2, hrun2⟩⟩
                  ·
                    refine T.live (l := [(0, _), (1, _), (8, _), (9, _), (10, _), (11, _), (12, _), (13, _), (14, _), (16, _), (17, _), (18, _)]) (.cons z_C (.cons z_C (.cons z_C (.cons z_C (.cons z_C (.cons z_C (.cons z_C (.cons z_C (.cons z_C (.cons z_C (.cons z_C (.cons z_C .nil)))))))))))) (fun e_ => ?_)
                    refine T.region ?_
                    refine TL.cons rfl (V1.t (V1.move' z_C) ?_)
                    refine TL.cons rfl (V1.t (V1.move' z_C) ?_)
                    refine TL.cons rfl (V1.t (V1.indexAddrS ty_44 sz_3 rfl rfl (by omega) (by omega)) ?_)
                    refine TL.cons rfl (V1.t (V1.load1 (v := .int .i64 3) one_3 rfl (show Rd _ _ ⟨_, _ + i * 1, none⟩ _ from by rw [Nat.mul_one]; exact hrdk _ rfl rfl _ z_B i _ (by rw [List.getElem?_map, hx0]; rfl))) ?_)
                    refine TL.cons rfl (V1.t (V1.eqI (r := false) rfl rfl (by decide)) ?_)
                    refine TL.cons rfl (V1.t (V1.move' z_C) ?_)
                    refine TL.no rfl ?_
                    refine TL.no rfl ?_
                    refine TL.cons rfl (V1.t (V1.pick rfl z_C) ?_)
                    refine TL.cons rfl (V1.t (V1.move' z_C) ?_)
                    refine TL.cons rfl (V1.t (V1.move' z_C) ?_)
                    refine TL.cons rfl (V1.t (V1.move' z_C) ?_)
                    refine TL.cons rfl (V1.t (V1.indexAddrS ty_44 sz_3 rfl rfl (by omega) (by omega)) ?_)
                    refine TL.cons rfl (V1.t (V1.load1 (v := .int .i64 3) one_3 rfl (show Rd _ _ ⟨_, _ + i * 1, none⟩ _ from by rw [Nat.mul_one]; exact hrdk _ rfl rfl _ z_B i _ (by rw [List.getElem?_map, hx0]; rfl))) ?_)
                    refine TL.cons rfl (V1.t (V1.eqI (r := false) rfl rfl (by decide)) ?_)
                    refine TL.cons rfl (V1.t (V1.move' z_C) ?_)
                    refine TL.no rfl ?_
                    refine TL.cons rfl (V1.t (V1.pick rfl z_C) ?_)
                    refine TL.cons rfl (V1.t (V1.pick rfl z_C) ?_)
                    refine TL.nil ?_
                    refine T.cond_f rfl ?_
                    refine T.skip ?_
                    refine T.seq ?_
                    refine T.seq ?_
                    refine T.live (l := [(0, _), (1, _), (8, _), (9, _), (10, _), (11, _), (12, _), (13, _), (14, _), (16, _), (17, _), (18, _)]) (.cons z_C (.cons z_C (.cons z_C (.cons z_C (.cons z_C (.cons z_C (.cons z_C (.cons z_C (.cons z_C (.cons z_C (.cons z_C (.cons z_C .nil)))))))))))) (fun e_ => ?_)
                    refine T.region ?_
                    refine TL.cons rfl (V1.t (V1.move' z_C) ?_)
                    refine TL.cons rfl (V1.t (V1.move' z_C) ?_)
                    refine TL.cons rfl (V1.t (V1.indexAddrS ty_44 sz_3 rfl rfl (by omega) (by omega)) ?_)
                    refine TL.cons rfl (V1.t (V1.load1 (v := .int .i64 3) one_3 rfl (show Rd _ _ ⟨_, _ + i * 1, none⟩ _ from by rw [Nat.mul_one]; exact hrdk _ rfl rfl _ z_B i _ (by rw [List.getElem?_map, hx0]; rfl))) ?_)
                    refine TL.cons rfl (V1.t (V1.eqI (r := true) rfl rfl (by decide)) ?_)
                    refine TL.cons rfl (V1.t (V1.move' z_C) ?_)
                    refine TL.cons rfl (V1.t (V1.move' z_C) ?_)
                    refine TL.cons rfl (V1.t (V1.pick rfl z_C) ?_)
                    refine TL.nil ?_
                    refine T.cond_f rfl ?_
                    refine T.skip ?_
                    refine T.seq ?_
                    refine T.region ?_
                    refine TL.cons rfl (V1.t (V1.move' z_C) ?_)
                    refine TL.cons rfl (V1.t (V1.move' z_C) ?_)
                    refine TL.cons rfl (V1.t (V1.indexAddrS ty_44 sz_3 rfl rfl (by omega) (by omega)) ?_)
                    refine TL.cons rfl (V1.t (V1.load1 (v := .int .i64 3) one_3 rfl (show Rd _ _ ⟨_, _ + i * 1, none⟩ _ from by rw [Nat.mul_one]; exact hrdk _ rfl rfl _ z_B i _ (by rw [List.getElem?_map, hx0]; rfl))) ?_)
                    refine TL.cons rfl (V1.t (V1.eqI (r := false) rfl rfl (by decide)) ?_)
                    refine TL.nil ?_
                    refine T.cond_f rfl ?_
                    refine T.skip ?_
                    refine T.region ?_
                    refine TL.cons rfl (V1.t (V1.move' z_C) ?_)
                    refine TL.cons rfl (V1.t (V1.add (c := ((i + 1 : Nat) : Int)) rfl rfl (by rw [wrap_i64 _ (by omega) (by omega)]; omega)) ?_)
                    refine TL.cons rfl (V1.t (V1.assign' z_C) ?_)
                    refine TL.nil ?_
                    have hstep : s.step 3 (w1 : Int) = (0, s) := step_none hw6 (by omega) (fun h => absurd h (by omega)) (fun h => hin)
                    have hI2 : SgInv (i + 1) (s) := by have h_ := hI.step 3 (w1 : Int); rw [hstep] at h_; exact h_
                    have hky2 : (s).keys.length ≤ i + 1 := by have h_ := keys_step s 3 (w1 : Int); rw [hstep] at h_; simp only at h_; omega
                    have hrun2 : Sg.init.runs es = (s).runs (es.drop (i + 1)) := by rw [hrun, drop_ev hx0, runs_ok (by rw [hstep]), hstep]
                    exact ⟨(i + 1, s, vt, vk, .slice an s.names.length cn, vb, vy), Lt ++ (Lk ++ (Lb ++ (Ly ++ (Q ++ G)))), _, (by simp only; omega), (.cons rfl (.cons rfl (.cons rfl (.cons rfl (.cons rfl (.cons rfl (.cons rfl (.cons rfl .nil)))))))), (.cons rfl (.cons rfl .nil)), z_A, ⟨⟨Lt, Lk, Lb, Ly, Q, xs, rfl, hst, htm, hxA, hsk, hrn, hsb, hsy⟩, by simp only; omega, hI2, hky2, hrun2⟩⟩
                  ·
                    refine T.live (l := [(0, _), (1, _), (8, _), (9, _), (10, _), (11, _), (12, _), (13, _), (14, _), (16, _), (17, _), (18, _)]) (.cons z_C (.cons z_C (.cons z_C (.cons z_C (.cons z_C (.cons z_C (.cons z_C (.cons z_C (.cons z_C (.cons z_C (.cons z_C (.cons z_C .nil)))))))))))) (fun e_ => ?_)
                    refine T.region ?_
                    refine TL.cons rfl (V1.t (V1.move' z_C) ?_)
                    refine TL.cons rfl (V1.t (V1.move' z_C) ?_)
                    refine TL.cons rfl (V1.t (V1.indexAddrS ty_44 sz_3 rfl rfl (by omega) (by omega)) ?_)
                    refine TL.cons rfl (V1.t (V1.load1 (v := .int .i64 4) one_3 rfl (show Rd _ _ ⟨_, _ + i * 1, none⟩ _ from by rw [Nat.mul_one]; exact hrdk _ rfl rfl _ z_B i _ (by rw [List.getElem?_map, hx0]; rfl))) ?_)
                    refine TL.cons rfl (V1.t (V1.eqI (r := false) rfl rfl (by decide)) ?_)
                    refine TL.cons rfl (V1.t (V1.move' z_C) ?_)
                    refine TL.no rfl ?_
                    refine TL.no rfl ?_
                    refine TL.cons rfl (V1.t (V1.pick rfl z_C) ?_)
                    refine TL.cons rfl (V1.t (V1.move' z_C) ?_)
                    refine TL.cons rfl (V1.t (V1.move' z_C) ?_)
                    refine TL.cons rfl (V1.t (V1.move' z_C) ?_)
                    refine TL.cons rfl (V1.t (V1.indexAddrS ty_44 sz_3 rfl rfl (by omega) (by omega)) ?_)
                    refine TL.cons rfl (V1.t (V1.load1 (v := .int .i64 4) one_3 rfl (show Rd _ _ ⟨_, _ + i * 1, none⟩ _ from by rw [Nat.mul_one]; exact hrdk _ rfl rfl _ z_B i _ (by rw [List.getElem?_map, hx0]; rfl))) ?_)
                    refine TL.cons rfl (V1.t (V1.eqI (r := false) rfl rfl (by decide)) ?_)
                    refine TL.cons rfl (V1.t (V1.move' z_C) ?_)
                    refine TL.no rfl ?_
                    refine TL.cons rfl (V1.t (V1.pick rfl z_C) ?_)
                    refine TL.cons rfl (V1.t (V1.pick rfl z_C) ?_)
                    refine TL.nil ?_
                    refine T.cond_f rfl ?_
                    refine T.skip ?_
                    refine T.seq ?_
                    refine T.seq ?_
                    refine T.live (l := [(0, _), (1, _), (8, _), (9, _), (10, _), (11, _), (12, _), (13, _), (14, _), (16, _), (17, _), (18, _)]) (.cons z_C (.cons z_C (.cons z_C (.cons z_C (.cons z_C (.cons z_C (.cons z_C (.cons z_C (.cons z_C (.cons z_C (.cons z_C (.cons z_C .nil)))))))))))) (fun e_ => ?_)
                    refine T.region ?_
                    refine TL.cons rfl (V1.t (V1.move' z_C) ?_)
                    refine TL.cons rfl (V1.t (V1.move' z_C) ?_)
                    refine TL.cons rfl (V1.t (V1.indexAddrS ty_44 sz_3 rfl rfl (by omega) (by omega)) ?_)
                    refine TL.cons rfl (V1.t (V1.load1 (v := .int .i64 4) one_3 rfl (show Rd _ _ ⟨_, _ + i * 1, none⟩ _ from by rw [Nat.mul_one]; exact hrdk _ rfl rfl _ z_B i _ (by rw [List.getElem?_map, hx0]; rfl))) ?_)
                    refine TL.cons rfl (V1.t (V1.eqI (r := false) rfl rfl (by decide)) ?_)
                    refine TL.cons rfl (V1.t (V1.move' z_C) ?_)
                    refine TL.no rfl ?_
                    refine TL.cons rfl (V1.t (V1.pick rfl z_C) ?_)
                    refine TL.nil ?_
                    refine T.cond_f rfl ?_
                    refine T.skip ?_
                    refine T.seq ?_
                    refine T.region ?_
                    refine TL.cons rfl (V1.t (V1.move' z_C) ?_)
                    refine TL.cons rfl (V1.t (V1.move' z_C) ?_)
                    refine TL.cons rfl (V1.t (V1.indexAddrS ty_44 sz_3 rfl rfl (by omega) (by omega)) ?_)
                    refine TL.cons rfl (V1.t (V1.load1 (v := .int .i64 4) one_3 rfl (show Rd _ _ ⟨_, _ + i * 1, none⟩ _ from by rw [Nat.mul_one]; exact hrdk _ rfl rfl _ z_B i _ (by rw [List.getElem?_map, hx0]; rfl))) ?_)
                    refine TL.cons rfl (V1.t (V1.eqI (r := true) rfl rfl (by decide)) ?_)
                    refine TL.nil ?_
                    refine T.cond_t rfl ?_
                    refine T.cut (σ := Value × List Blk) (l0 := [(0, _), (1, _), (8, _), (9, _), (10, _), (12, _), (13, _), (14, _), (16, _), (17, _), (18, _)]) (fun x => [(11, x.1)]) (fun x L => L = Lt ++ (Lk ++ (x.2 ++ (Ly ++ (Q ++ G)))) ∧ Sl x.1 ((s.lay w1).bare.map iV) 1 x.2) (.cons z_C (.cons z_C (.cons z_C (.cons z_C (.cons z_C (.cons z_C (.cons z_C (.cons z_C (.cons z_C (.cons z_C (.cons z_C .nil))))))))))) ?_ ?_
                    ·
                      refine T.seq ?_
                      refine T.region ?_
                      refine TL.cons rfl (V1.t (V1.move' z_C) ?_)
                      refine TL.cons rfl (V1.t (V1.move' z_C) ?_)
                      refine TL.cons rfl (T1.callV has_54 rfl rfl (rhas_any w0 Lb hrb (by omega) w1) z_B (fun v_ hv => ?_))
                      obtain rfl := hv
                      rcases Classical.em (w1 ∈ s.bare) with hbr | hbr
                      ·
                        rw [decide_eq_true hbr]
                        refine TL.cons rfl (V1.t (V1.not rfl rfl) ?_)
                        refine TL.nil ?_
                        refine T.cond_f rfl ?_
                        refine T.skip ?_
                        exact ⟨(vb, Lb), _, _, trivial, (.cons rfl .nil), (.cons rfl (.cons rfl (.cons rfl (.cons rfl (.cons rfl (.cons rfl (.cons rfl (.cons rfl (.cons rfl (.cons rfl (.cons rfl .nil))))))))))), z_A, ⟨rfl, by rw [lay_bare, if_pos hbr]; exact hsb⟩⟩
                      ·
                        rw [decide_eq_false hbr]
                        refine TL.cons rfl (V1.t (V1.not rfl rfl) ?_)
                        refine TL.nil ?_
                        refine T.cond_t rfl ?_
                        refine T.live (l := [(0, _), (1, _), (8, _), (9, _), (10, _), (11, _), (12, _), (13, _), (14, _), (16, _), (17, _), (18, _)]) (.cons z_C (.cons z_C (.cons z_C (.cons z_C (.cons z_C (.cons z_C (.cons z_C (.cons z_C (.cons z_C (.cons z_C (.cons z_C (.cons z_C .nil)))))))))))) (fun e_ => ?_)
                        refine T.region ?_
                        refine TL.cons rfl (V1.t (V1.move' z_C) ?_)
                        refine TL.cons rfl (V1.t (V1.move' z_C) ?_)
                        refine TL.cons rfl (T1.buildSl1 (os := [.tmp 183]) ty_44 sz_3 zr_3 (by decide) rfl (.cons (v := iV w1) rfl .nil) rfl (ones rfl) (fun b184 => ?_))
                        refine TL.cons rfl (T1.append ty_44 kd_44 sz_3 by_3 zr_3 rfl (by decide) (by decide) rfl rfl hsb (.sl (vs := [iV w1]) (RdN.at0 z_D) (by rfl)) (ones rfl) 2000 (by rw [List.length_map]; show _ + 1 ≤ _; omega) (by decide) z_E (fun vb2 Lb2 hsb2 => ?_))
                        refine TL.cons rfl (V1.t (V1.assign' z_C) ?_)
                        refine TL.nil ?_
                        exact ⟨(vb2, Lb2), _, _, trivial, (.cons rfl .nil), (.cons rfl (.cons rfl (.cons rfl (.cons rfl (.cons rfl (.cons rfl (.cons rfl (.cons rfl (.cons rfl (.cons rfl (.cons rfl .nil))))))))))), z_A, ⟨rfl, by rw [lay_bare, if_neg hbr, List.map_append]; exact hsb2⟩⟩
                    ·
                      rintro ⟨vb2, Lb2⟩ e_ L ⟨rfl, hsb2⟩
                      simp only at hsb2
                      dsimp only
                      refine T.seq ?_
                      refine T.region ?_
                      refine TL.cons rfl (V1.t (V1.move' z_C) ?_)
                      refine TL.cons rfl (V1.t (V1.move' z_C) ?_)
                      refine TL.cons rfl (T1.callV has_53 rfl rfl (digits_any w0 w1 hw99) z_B (fun v_ hv => ?_))
                      obtain rfl := hv
                      refine TL.cons rfl (V1.t (V1.addSr (a := [111, 119, 110]) (b := dgN w1) rfl rfl (by (try simp only [List.length_append, List.length_cons, List.length_nil]); omega) rfl) ?_)
                      refine TL.cons rfl (V1.t (V1.addSr (b := [120]) (r := txt (ownT w1)) rfl rfl (by (try simp only [List.length_append, List.length_cons, List.length_nil]); omega) (txt_own2 _)) ?_)
                      refine TL.cons rfl (T1.buildSl1 (os := [.tmp 190]) ty_50 sz_9 zr_9 (by decide) rfl (.cons (v := kV (ownT w1)) rfl .nil) rfl (ones rfl) (fun b191 => ?_))
                      refine TL.cons rfl (T1.append ty_50 kd_50 sz_9 by_9 zr_9 rfl (by decide) (by decide) rfl rfl hsk (.sl (vs := [kV (ownT w1)]) (RdN.at0 z_D) (by rfl)) (ones rfl) 2000 (by rw [List.length_map]; show _ + 1 ≤ _; omega) (by decide) z_E (fun vk2 Lk2 hsk2 => ?_))
                      refine TL.cons rfl (V1.t (V1.assign' z_C) ?_)
                      refine TL.nil ?_
                      refine T.seq ?_
                      refine T.live (l := [(0, _), (1, _), (8, _), (9, _), (10, _), (11, _), (12, _), (13, _), (14, _), (16, _), (17, _), (18, _)]) (.cons z_C (.cons z_C (.cons z_C (.cons z_C (.cons z_C (.cons z_C (.cons z_C (.cons z_C (.cons z_C (.cons z_C (.cons z_C (.cons z_C .nil)))))))))))) (fun e_ => ?_)
                      refine T.region ?_
                      refine TL.cons rfl (V1.t (V1.move' z_C) ?_)
                      refine TL.nil ?_
                      refine T.cond_f rfl ?_
                      refine T.skip ?_
                      refine T.region ?_
                      refine TL.cons rfl (V1.t (V1.move' z_C) ?_)
                      refine TL.cons rfl (V1.t (V1.add (c := ((i + 1 : Nat) : Int)) rfl rfl (by rw [wrap_i64 _ (by omega) (by omega)]; omega)) ?_)
                      refine TL.cons rfl (V1.t (V1.assign' z_C) ?_)
                      refine TL.nil ?_
                      have hstep : s.step 4 (w1 : Int) = (0, s.lay w1) := step_lay hw6 rfl
                      have hI2 : SgInv (i + 1) (s.lay w1) := by have h_ := hI.step 4 (w1 : Int); rw [hstep] at h_; exact h_
                      have hky2 : (s.lay w1).keys.length ≤ i + 1 := by have h_ := keys_step s 4 (w1 : Int); rw [hstep] at h_; simp only at h_; omega
                      have hrun2 : Sg.init.runs es = (s.lay w1).runs (es.drop (i + 1)) := by rw [hrun, drop_ev hx0, runs_ok (by rw [hstep]), hstep]
                      exact ⟨(i + 1, s.lay w1, vt, vk2, .slice an s.names.length cn, vb2, vy), Lt ++ (Lk2 ++ (Lb2 ++ (Ly ++ (Q ++ G)))), _, (by simp only; omega), (.cons rfl (.cons rfl (.cons rfl (.cons rfl (.cons rfl (.cons rfl (.cons rfl (.cons rfl .nil)))))))), (.cons rfl (.cons rfl .nil)), z_A, ⟨⟨Lt, Lk2, Lb2, Ly, Q, xs, rfl, hst, htm, hxA, by rw [lay_out hin, List.map_append]; exact hsk2, hrn, hsb2, by rw [lay_keys_out hin]; exact hsy⟩, by simp only; omega, hI2, hky2, hrun2⟩⟩
      ·
        obtain rfl : i = es.length := by omega
        have hkey := keys_low hI hes
        have hrb2 : RowR w0 (Lb ++ (Ly ++ Q)) 1 vb s.bare.length (s.bare.map iV) := hrb.more Inc.here
        have hry2 : RowR w0 (Lb ++ (Ly ++ Q)) 1 vy (s.keys.map kN).length ((s.keys.map kN).map iV) := (Sl.nat hsy).more (Inc.skip Inc.here)
        have hxA2 : TdXA w0 (Lb ++ (Ly ++ Q)) xs := hxA.more (Inc.skip (Inc.skip Inc.refl))
        refine TL.nil ?_
        refine T.cond_f rfl ?_
        refine T.exit ?_
        refine T.seq ?_
        refine T.seq ?_
        refine T.region ?_
        refine TL.cons rfl (V1.t (V1.assign' z_C) ?_)
        refine TL.nil ?_
        refine T.block ?_
        refine T.loopL (σ := Nat) (l0 := [(8, _), (9, _), (11, _), (12, _)]) (fun x => [(23, .int .i64 (x : Nat))]) (fun j L => ∃ Lt2, L = Lt2 ++ (Lk ++ (Lb ++ (Ly ++ (Q ++ G)))) ∧ j ≤ xs.length ∧ Sl vt (tdX (curX s xs j)) 5 Lt2) (fun j => xs.length - j) 0 (.cons rfl .nil) (.cons z_C (.cons z_C (.cons z_C (.cons z_C .nil)))) z_A (⟨Lt, rfl, Nat.zero_le _, by rw [curX_0]; exact hst⟩) ?_
        rintro j e_ L ⟨Lt2, rfl, hj, hst2⟩
        have hfm := SlG.formT (tg := none) hst2 (n := xs.length) (by decide) (by rw [tdX_len, curX_len])
        obtain ⟨at_, ct_, rfl⟩ := hfm
        refine T.seq ?_
        refine T.seq ?_
        refine T.region ?_
        refine TL.cons rfl (V1.t (V1.move' z_C) ?_)
        refine TL.cons rfl (V1.t (V1.move' z_C) ?_)
        refine TL.cons rfl (V1.t (V1.lenSl ty_49 rfl) ?_)
        refine TL.cons rfl (T1.ltI_split rfl rfl (fun h45 => ?_) (fun h45 => ?_))
        ·
          obtain ⟨e, hy0⟩ : ∃ e, xs[j]? = some e := ⟨_, List.getElem?_eq_getElem (by omega)⟩
          have hre := hxA2 e (List.mem_of_getElem? hy0)
          have hrt := RowR.ofSl (w0 := w0) (Ps := Lt2) hst2 Inc.refl (by decide) xs.length (by rw [tdX_len, curX_len])
          have hset := curX_set (s := s) hy0
          have hcat := curX_at (s := s) hy0
          have hte : e.t ∈ s.told := by rw [← htm]; exact List.mem_map_of_mem (List.mem_of_getElem? hy0)
          obtain ⟨it, hit⟩ := List.getElem?_of_mem hte
          have htt := tellsR hI hit
          obtain ⟨hT1, hT2, hT3, hT4, hT5, hT6⟩ := htt
          have hT7 := hT5 _ hT3
          have hT8 : e.t.epoch < 1000 := by have h_ := (hI.td it _ hit).2.2.1; have := (List.getElem?_eq_some_iff.1 h_).1; have := hI.hl; omega
          obtain ⟨⟨who, epoch, names, num⟩, sec, a2, c2⟩ := e
          dsimp only at hre hT1 hT2 hT3 hT4 hT5 hT6 hT7 hT8 hset
          obtain ⟨b4_, off_, cap_, size_, hsl_, hcap_, hsz_, rfl⟩ := SlG.blkT (tg := none) hst2 (n := xs.length) (by decide) (by rw [tdX_len, curX_len]) (by omega)
          cases hsl_
          refine TL.nil ?_
          refine T.cond_t rfl ?_
          refine T.skip ?_
          refine T.seq ?_
          refine T.block ?_
          refine T.region ?_
          refine TL.cons rfl (V1.t (V1.move' z_C) ?_)
          refine TL.cons rfl (V1.t (V1.move' z_C) ?_)
          refine TL.cons rfl (V1.t (V1.move' z_C) ?_)
          refine TL.cons rfl (V1.t (V1.move' z_C) ?_)
          refine TL.cons rfl (V1.t (V1.indexAddrS ty_49 sz_57 rfl rfl (by omega) (by omega)) ?_)
          refine TL.cons rfl (V1.t (V1.loadN (vs := TdX.cells ⟨⟨who, epoch, names, num⟩, sec, a2, c2⟩) one_57 sz_57 rfl (tdX_rd hcat (RdN.at0 (cells := tdX (curX s xs j)) z_D)) rfl) ?_)
          refine TL.cons rfl (V1.t (V1.move' z_C) ?_)
          refine TL.cons rfl (V1.t (V1.move' z_C) ?_)
          refine TL.cons rfl (T1.callV has_57 rfl rfl (open_any w0 (Lb ++ (Ly ++ Q)) (s := s) (who := who) (epoch := epoch) (num := num) (sec := sec) hre hrb2 (by omega) hry2 (by omega) hkey hT8 (by omega) (by omega)) z_B (fun v_ hv => ?_))
          obtain rfl := hv
          refine TL.cons rfl (V1.t (V1.not rfl rfl) ?_)
          refine TL.cons rfl (V1.t (V1.indexAddrS ty_49 sz_57 rfl rfl (by omega) (by omega)) ?_)
          refine TL.cons rfl (V1.t (V1.fieldAddr fl_57_4 rfl) ?_)
          refine TL.cons rfl (T1.storeE (off := off_) (size := size_) (cells := tdX (curX s xs j)) (cells' := tdX (curX s xs (j + 1))) rfl rfl sz_4 rfl (by show (tdX (curX s xs j)).set (off_ + j * 5 + 4 - off_) (.bool (!Td.open s ⟨who, epoch, names, num⟩)) = _; rw [show off_ + j * 5 + 4 - off_ = j * 5 + 4 by omega]; exact hset) z_G (by omega) (by rw [tdX_len, curX_len]; omega) ?_)
          refine TL.nil ?_
          refine T.live (l := [(8, _), (9, _), (11, _), (12, _), (23, _)]) (.cons z_C (.cons z_C (.cons z_C (.cons z_C (.cons z_C .nil))))) (fun e_ => ?_)
          refine T.region ?_
          refine TL.cons rfl (V1.t (V1.move' z_C) ?_)
          refine TL.cons rfl (V1.t (V1.add (c := ((j + 1 : Nat) : Int)) rfl rfl (by rw [wrap_i64 _ (by omega) (by omega)]; omega)) ?_)
          refine TL.cons rfl (V1.t (V1.assign' z_C) ?_)
          refine TL.nil ?_
          exact ⟨j + 1, (⟨b4_, off_, tdX (curX s xs (j + 1)), size_⟩ : Blk) :: (Lk ++ (Lb ++ (Ly ++ (Q ++ G)))), _, (by simp only; omega), (.cons rfl .nil), (.cons rfl (.cons rfl (.cons rfl (.cons rfl .nil)))), z_A, ⟨[⟨b4_, off_, tdX (curX s xs (j + 1)), size_⟩], rfl, by omega, Sl.mk (by rw [tdX_len, curX_len]) hcap_ hsz_⟩⟩
        ·
          obtain rfl : j = xs.length := by omega
          refine TL.nil ?_
          refine T.cond_f rfl ?_
          refine T.exit ?_
          refine T.seq ?_
          refine T.region ?_
          refine TL.cons rfl (V1.t (V1.move' z_C) ?_)
          refine TL.cons rfl (V1.t (V1.move' z_C) ?_)
          refine TL.cons rfl (V1.t (V1.move' z_C) ?_)
          refine TL.cons rfl (V1.t (V1.assign' z_C) ?_)
          refine TL.cons rfl (V1.t (V1.assign' z_C) ?_)
          refine TL.cons rfl (V1.t (V1.assign' z_C) ?_)
          refine TL.cons rfl (V1.t (V1.assign' z_C) ?_)
          refine TL.nil ?_
          refine T.ret ?_
          have hR : sgRun es = (0, s) := by rw [sgRun_few (by omega), hrun, List.drop_length]; rfl
          have hO : sgOut es = s := by unfold sgOut; rw [hR]; rfl
          rw [curX_end] at hst2
          exact ⟨_, Lt2 ++ (Lk ++ (Lb ++ (Q ++ G))), _, .cons (.tmp z_C) (.cons (.tmp z_C) (.cons (.tmp z_C) (.cons (.tmp z_C) .nil))), z_A, Lt2 ++ (Lk ++ (Lb ++ Q)), by simp only [List.append_assoc], _, vk, vb, Lt2, Lk, Lb, Q, xs.map (finX s), rfl, by rw [hR]; rfl, hst2, by rw [hO]; exact fin_told htm, fin_A hxA, by rw [hO]; exact hsk, by rw [hO]; exact hsb⟩

end Go.Proofs.YtlpkcbkflfbclaaGreatDoor.S
