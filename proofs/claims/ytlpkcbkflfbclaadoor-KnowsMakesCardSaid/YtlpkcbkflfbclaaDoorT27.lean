/- What can be had, round by round, as the document has it. -/
import Derived.Test.YtlpkcbkflfbclaaDoorT26
import Derived.Test.YtlpkcbkflfbclaaDoorRefSpec
namespace Go.Proofs.YtlpkcbkflfbclaaDoor.S
open Go.RowKit

theorem set_map {hd : List Bool} {j : Nat} : (hd.map Value.bool).set j (.bool true) = (hd.set j true).map Value.bool := by rw [List.map_set]
/-- One truth read. -/
theorem bool_rd {C : Ctx} {L : List Blk} {b size j : Nat} {hd : List Bool} {v : Bool} (hf : Find L ⟨b, 0, hd.map Value.bool, size⟩) (h : hd[j]? = some v) : Rd C L ⟨b, 0 + j * 1, none⟩ (.bool v) := by
  rw [Nat.mul_one]
  exact Rd.at (off := 0) hf (by rw [List.getElem?_map, h]; rfl)
theorem int_rd {C : Ctx} {L : List Blk} {b size k : Nat} {cs : List Value} {v : Value} (hf : Find L ⟨b, 0, cs, size⟩) (h : cs[k]? = some v) : Rd C L ⟨b, 0 + k * 1, none⟩ v := by
  rw [Nat.mul_one]
  exact Rd.at (off := 0) hf h
/-- The places of some arguments, as far as they are found. -/
def Plc (al : List Tm) (args : List Tm) (k : Nat) (js : List Nat) : Prop := js.length = k ∧ ∀ i : Nat, i < k → ∃ j a, js[i]? = some j ∧ args[i]? = some a ∧ al[j]? = some a
def plcC (js : List Nat) (m : Nat) : List Value := js.map (fun j : Nat => .int .i64 j) ++ List.replicate (m - js.length) (.int .i64 0)
theorem plc_next {al args : List Tm} {k j m : Nat} {js : List Nat} {a : Tm} (h : Plc al args k js) (ha : args[k]? = some a) (hj : al[j]? = some a) (hm : k < m) : Plc al args (k + 1) (js ++ [j]) ∧ (plcC js m).set k (.int .i64 j) = plcC (js ++ [j]) m := by
  obtain ⟨hl, hp⟩ := h
  refine ⟨⟨by simp [hl], fun i hi => ?_⟩, ?_⟩
  · rcases Nat.lt_succ_iff_lt_or_eq.1 hi with hi | rfl
    · obtain ⟨j', a', h1, h2, h3⟩ := hp i hi
      exact ⟨j', a', by rw [List.getElem?_append_left (by omega)]; exact h1, h2, h3⟩
    · exact ⟨j, a, by rw [List.getElem?_append_right (by omega), hl, Nat.sub_self]; rfl, ha, hj⟩
  · unfold plcC
    rw [List.set_append, if_neg (by rw [List.length_map]; omega), List.length_map, hl, Nat.sub_self, List.map_append, List.append_assoc]
    congr 1
    rw [show m - k = (m - (k + 1)) + 1 by omega, List.replicate_succ, List.set_cons_zero, List.length_append, List.length_singleton, hl]
    rfl
theorem whole_next {H : Tm → Prop} {ts : List Tm} {k : Nat} {y : Tm} {w b : Bool} (h : w = true ↔ ts ≠ [] ∧ ∀ a ∈ ts.take k, H a) (hy : ts[k]? = some y) (hb : b = true ↔ H y) : (w && b) = true ↔ ts ≠ [] ∧ ∀ a ∈ ts.take (k + 1), H a := by
  rw [Bool.and_eq_true, h, hb, List.take_add_one, hy]
  simp only [Option.toList_some, List.mem_append, List.mem_singleton]
  constructor
  · rintro ⟨⟨h1, h2⟩, h3⟩
    exact ⟨h1, fun a ha => ha.elim (h2 a) (fun e => e ▸ h3)⟩
  · rintro ⟨h1, h2⟩
    exact ⟨⟨h1, fun a ha => h2 a (.inl ha)⟩, h2 y (.inr rfl)⟩
theorem had_b {al : List Tm} {hd : List Bool} (hn : al.Nodup) {j : Nat} {x : Tm} {b : Bool} (hx : al[j]? = some x) (hb : hd[j]? = some b) : b = true ↔ Had al hd x := by
  rw [had_at hn hx, hb]; simp
theorem whole_ne6 {H : Tm → Prop} {k : Int} {n : List UInt8} {ts : List Tm} {w : Bool} (hk : k ≠ 6) (h : w = true ↔ ts ≠ [] ∧ ∀ a ∈ ts, H a) : w = true ↔ Whole H (.mk k n ts) := by
  rw [h]
  exact ⟨fun ⟨h1, h2⟩ => .inr ⟨hk, h1, h2⟩, fun hw => hw.elim (fun ⟨h6, _⟩ => absurd h6 hk) fun ⟨_, h1, h2⟩ => ⟨h1, h2⟩⟩
theorem whole_6 {H : Tm → Prop} {n : List UInt8} {p q : Tm} {b0 b1 ba bb : Bool} (h0 : b0 = true ↔ H p) (h1 : b1 = true ↔ H q) (ha : ba = true ↔ H (pub p)) (hb : bb = true ↔ H (pub q)) : ((b0 && bb) || (b1 && ba)) = true ↔ Whole H (.mk 6 n [p, q]) := by
  rw [Bool.or_eq_true, Bool.and_eq_true, Bool.and_eq_true, h0, h1, ha, hb]
  constructor
  · intro h; exact .inl ⟨rfl, p, q, rfl, h⟩
  · rintro (⟨_, a, b, e, h⟩ | ⟨h, _⟩)
    · have e' : [p, q] = [a, b] := e
      simp only [List.cons.injEq, and_true] at e'
      obtain ⟨rfl, rfl⟩ := e'
      exact h
    · exact absurd rfl h
/-- What comes out: of so many of all those that are had. -/
def OutI (al : List Tm) (hd : List Bool) (i : Nat) (ou : List Tm) : Prop := ou.length ≤ i ∧ ∀ y, y ∈ ou ↔ ∃ j : Nat, j < i ∧ al[j]? = some y ∧ hd[j]? = some true
theorem OutI.start {al : List Tm} {hd : List Bool} : OutI al hd 0 [] := ⟨Nat.le_refl _, fun y => ⟨fun h => (by cases h), fun ⟨j, h, _⟩ => absurd h (Nat.not_lt_zero j)⟩⟩
theorem OutI.skip {al ou : List Tm} {hd : List Bool} {i : Nat} (h : OutI al hd i ou) (hb : hd[i]? = some false) : OutI al hd (i + 1) ou := by
  refine ⟨by have := h.1; omega, fun y => (h.2 y).trans ⟨fun ⟨j, h1, h2⟩ => ⟨j, by omega, h2⟩, fun ⟨j, h1, h2, h3⟩ => ?_⟩⟩
  rcases Nat.lt_succ_iff_lt_or_eq.1 h1 with h1 | rfl
  · exact ⟨j, h1, h2, h3⟩
  · rw [hb] at h3; cases h3
theorem OutI.put {al ou : List Tm} {hd : List Bool} {i : Nat} {x : Tm} (h : OutI al hd i ou) (hx : al[i]? = some x) (hb : hd[i]? = some true) : OutI al hd (i + 1) (ou ++ [x]) := by
  refine ⟨by have := h.1; rw [List.length_append, List.length_singleton]; omega, fun y => ?_⟩
  rw [List.mem_append, List.mem_singleton, h.2]
  constructor
  · rintro (⟨j, h1, h2⟩ | rfl)
    · exact ⟨j, by omega, h2⟩
    · exact ⟨i, by omega, hx, hb⟩
  · rintro ⟨j, h1, h2, h3⟩
    rcases Nat.lt_succ_iff_lt_or_eq.1 h1 with h1 | rfl
    · exact .inl ⟨j, h1, h2, h3⟩
    · rw [hx] at h2; exact .inr (Option.some.inj h2).symm
theorem OutI.had {al ou : List Tm} {hd : List Bool} {y : Tm} (h : OutI al hd al.length ou) : y ∈ ou ↔ Had al hd y :=
  (h.2 y).trans ⟨fun ⟨j, _, h2⟩ => ⟨j, h2⟩, fun ⟨j, h2⟩ => ⟨j, (List.getElem?_eq_some_iff.1 h2.1).1, h2⟩⟩
theorem plcC_len {js : List Nat} {m : Nat} (h : js.length ≤ m) : (plcC js m).length = m := by unfold plcC; simp; omega
theorem plc_get {al args : List Tm} {k i m : Nat} {js : List Nat} (h : Plc al args k js) (hi : i < k) : ∃ j a, (plcC js m)[i]? = some (.int .i64 (j : Nat)) ∧ args[i]? = some a ∧ al[j]? = some a := by
  obtain ⟨hl, hp⟩ := h
  obtain ⟨j, a, h1, h2, h3⟩ := hp i hi
  refine ⟨j, a, ?_, h2, h3⟩
  unfold plcC
  rw [List.getElem?_append_left (by simp; omega), List.getElem?_map, h1]; rfl

set_option maxRecDepth 100000 in
set_option maxHeartbeats 8000000 in
theorem Had_any (w0 : World) (Ps : List Blk) {kn : List Tm} {a : Option Addr} {c : Nat} {vs : List Value} (hr : RowR w0 Ps 3 (.slice a kn.length c) kn.length vs) (ht : TmsR w0 Ps kn vs) {t : Tm} {ct : List Value} (hct : TmR w0 Ps t ct) (hok : ∀ x ∈ kn ++ [t], shp x = true ∧ x.size ≤ 1000) (hnp : nparts (kn ++ [t]) ≤ 1000) : FnG P 53 [.slice a kn.length c, .agg ct.toArray] w0 Ps [] (fun v Y => ∃ Lo Q ou xs, Y = Lo ++ Q ∧ SlG (some 49) v xs 3 Lo ∧ TmsR w0 (Q ++ Ps) ou xs ∧ ou.length ≤ 3000 ∧ (t ∈ ou ↔ Der (· ∈ kn) t)) := by
  obtain ⟨kt, nt, ast⟩ := t
  obtain ⟨at_, ct_, vst, rfl, hrt, hlt, htt⟩ := hct.inv
  have hkl : kn.length ≤ 1000 := by have := nparts_len (kn ++ [.mk kt nt ast]); rw [List.length_append] at this; omega
  refine FnG.of 229 [.tmp 4] Go.Proofs.Tryd.func53 rfl rfl rfl rfl (fun G hG => ?_)
  refine T.seq ?_
  refine T.region ?_
  refine TL.cons rfl (T1.boxN 3 rfl rfl (fun b3 => ?_))
  refine TL.cons rfl (V1.t (V1.assign' (by (conv => lhs; whnf) <;> rfl)) ?_)
  refine TL.nil ?_
  refine T.seq ?_
  refine T.region ?_
  refine TL.cons rfl (T1.buildNone ty_47 sz_49 zr_49 (fun b22 => ?_))
  refine TL.cons rfl (V1.t (V1.move' (by (conv => lhs; whnf) <;> rfl)) ?_)
  refine TL.cons rfl (T1.appendG ty_47 kd_47 sz_49 by_49 zr_49 rfl (by decide) (by decide) rfl rfl (.inr rfl) (SlG.none0 b22) (hr.src _ rfl rfl _ (by repeat (first | exact Inc.nil | assumption | exact Inc.refl | exact Inc.here | apply Inc.app | apply Inc.cons (by repeat (first | exact Find.here | assumption | apply Find.there | apply Find.far)) | apply Inc.skip1 | apply Inc.skip))) ht.ones 1001 (by rw [ht.len]; simp only [List.length_nil]; omega) (by decide) (by repeat (first | exact PickS.last | exact PickS.one | exact PickS.here | exact PickS.nil | apply PickS.there | apply PickS.far)) (fun s1 Ls1 hsl1 => ?_))
  rw [List.nil_append] at hsl1
  refine TL.cons rfl (V1.t (V1.assign' (by (conv => lhs; whnf) <;> rfl)) ?_)
  refine TL.nil ?_
  refine T.cut (σ := Option Addr × Nat × List Tm × List Value × List Blk) (l0 := [(0, _)]) (fun x => [(6, .slice x.1 x.2.2.1.length x.2.1)]) (fun x L => L = x.2.2.2.2 ++ (⟨b3, 0, [.int .i64 kt, .string (bstr nt), .slice at_ ast.length ct_], 3⟩ :: G) ∧ RowR w0 (x.2.2.2.2 ++ Ps) 3 (.slice x.1 x.2.2.1.length x.2.1) x.2.2.1.length x.2.2.2.1 ∧ TmsR w0 (x.2.2.2.2 ++ Ps) x.2.2.1 x.2.2.2.1 ∧ MatInv (kn ++ [(Tm.mk kt nt ast)]) (kn ++ [(Tm.mk kt nt ast)]).length [] 0 x.2.2.1) (.cons (by (conv => lhs; whnf) <;> rfl) .nil) ?_ ?_
  ·
    refine T.region ?_
    refine TL.cons rfl (V1.t (V1.move' (by (conv => lhs; whnf) <;> rfl)) ?_)
    refine TL.cons rfl (V1.t (V1.loadN one_49 sz_49 rfl (RdN.whole (by repeat (first | exact Find.here | assumption | apply Find.there | apply Find.far))) (by rfl)) ?_)
    refine TL.cons rfl (T1.buildOne (cs := [.int .i64 kt, .string (bstr nt), .slice at_ ast.length ct_]) ty_47 sz_49 zr_49 (by decide) rfl (by rfl) (fun b27 => ?_))
    refine TL.cons rfl (T1.appendG ty_47 kd_47 sz_49 by_49 zr_49 rfl (by decide) (by decide) rfl rfl (.inr rfl) hsl1 (.sl (vs := [.int .i64 kt, .string (bstr nt), .slice at_ ast.length ct_]) (RdN.at0 (by repeat (first | exact Find.here | assumption | apply Find.there | apply Find.far))) (by rfl)) (ones rfl) 1001 (by rw [ht.len]; show _ + 3 ≤ _; omega) (by decide) (by repeat (first | exact PickS.last | exact PickS.one | exact PickS.here | exact PickS.nil | apply PickS.there | apply PickS.far)) (fun s2 Ls2 hsl2 => ?_))
    have htl : TmsR w0 Ps (kn ++ [(Tm.mk kt nt ast)]) (vs ++ [.int .i64 kt, .string (bstr nt), .slice at_ ast.length ct_]) := ht.app (TmsR.one hct)
    obtain ⟨al_, cl_, rfl, hrl⟩ := hsl2.tm htl
    refine TL.cons rfl (T1.callC has_74 rfl rfl (matter_any w0 (Ls2 ++ Ps) hrl (htl.more (Inc.skip Inc.refl)) hok hnp) (by repeat (first | exact Inc.nil | assumption | exact Inc.refl | exact Inc.here | apply Inc.app | apply Inc.cons (by repeat (first | exact Find.here | assumption | apply Find.there | apply Find.far)) | apply Inc.skip1 | apply Inc.skip)) (fun v_ Ym hY => ?_))
    obtain ⟨Lo, Q, al, xo, rfl, hslo, hxo, hmt⟩ := hY
    obtain ⟨a6, c6, rfl, hra0⟩ := hslo.tm hxo
    simp only [List.append_assoc]
    refine TL.cons rfl (V1.t (V1.assign' (by (conv => lhs; whnf) <;> rfl)) ?_)
    refine TL.nil ?_
    exact ⟨(a6, c6, al, xo, Lo ++ (Q ++ Ls2)), Lo ++ (Q ++ (Ls2 ++ (⟨b3, 0, [.int .i64 kt, .string (bstr nt), .slice at_ ast.length ct_], 3⟩ :: G))), _, trivial, (.cons rfl .nil), (.cons rfl .nil), (by repeat (first | exact Take.nil | apply Take.one (by repeat (first | exact Pick.here | apply Pick.there | apply Pick.far)) | apply Take.seg (by repeat (first | exact PickS.last | exact PickS.one | exact PickS.here | exact PickS.nil | apply PickS.there | apply PickS.far)) | exact Take.last (by repeat (first | exact PickS.last | exact PickS.one | exact PickS.here | exact PickS.nil | apply PickS.there | apply PickS.far)))), ⟨by simp only [List.append_assoc], by simpa only [List.append_assoc] using hra0, hxo.more (by simp only [List.append_assoc]; exact Inc.skip Inc.refl), hmt⟩⟩
  ·
    rintro ⟨a6, c6, al, xo, Z⟩ e_ L ⟨rfl, hra, hta, hmt⟩
    simp only at hra hta hmt
    have hal : al.length ≤ 3000 := by have := hmt.len; rw [List.take_length] at this; omega
    have hmm : ∀ y, y ∈ al ↔ Mat (kn ++ [(Tm.mk kt nt ast)]) y := fun y => by rw [hmt.mem, List.take_length]; simp
    have hnd := hmt.nd
    refine T.seq ?_
    refine T.region ?_
    refine TL.cons rfl (V1.t (V1.move' (by (conv => lhs; whnf) <;> rfl)) ?_)
    refine TL.cons rfl (V1.t (V1.lenSl ty_47 rfl) ?_)
    refine TL.cons rfl (T1.make1 al.length al.length ty_105 sz_4 by_4 zr_4 rfl rfl rfl (Nat.le_refl _) (by omega) (by omega) (fun b7 => ?_))
    rw [show List.replicate al.length (Value.bool false) = (List.replicate al.length false).map Value.bool from by rw [List.map_replicate]]
    refine TL.cons rfl (V1.t (V1.assign' (by (conv => lhs; whnf) <;> rfl)) ?_)
    refine TL.nil ?_
    refine T.seq ?_
    refine T.seq ?_
    refine T.region ?_
    refine TL.cons rfl (V1.t (V1.assign' (by (conv => lhs; whnf) <;> rfl)) ?_)
    refine TL.nil ?_
    refine T.block ?_
    refine T.loopL (σ := Nat × List Bool) (l0 := [(0, _), (6, _), (7, _)]) (fun x => [(8, .int .i64 (x.1 : Nat))]) (fun x L => L = ⟨b7, 0, (x.2).map Value.bool, al.length⟩ :: (Z ++ (⟨b3, 0, [.int .i64 kt, .string (bstr nt), .slice at_ ast.length ct_], 3⟩ :: G)) ∧ x.1 ≤ kn.length ∧ x.2.length = al.length ∧ (∀ y, Had al x.2 y → y ∈ kn) ∧ ∀ y ∈ kn.take x.1, Had al x.2 y) (fun x => kn.length - x.1) (0, List.replicate al.length false) (.cons rfl .nil) (.cons (by (conv => lhs; whnf) <;> rfl) (.cons (by (conv => lhs; whnf) <;> rfl) (.cons (by (conv => lhs; whnf) <;> rfl) .nil))) (by repeat (first | exact Take.nil | apply Take.one (by repeat (first | exact Pick.here | apply Pick.there | apply Pick.far)) | apply Take.seg (by repeat (first | exact PickS.last | exact PickS.one | exact PickS.here | exact PickS.nil | apply PickS.there | apply PickS.far)) | exact Take.last (by repeat (first | exact PickS.last | exact PickS.one | exact PickS.here | exact PickS.nil | apply PickS.there | apply PickS.far)))) (⟨rfl, Nat.zero_le _, by simp, fun y ⟨i, _, h⟩ => (by rw [List.getElem?_replicate] at h; split at h <;> cases h), by simp⟩) ?_
    rintro ⟨i, hd⟩ e_ L ⟨rfl, hi, hlen, hsn, hkn⟩
    simp only at hi hlen hsn hkn
    refine T.seq ?_
    refine T.seq ?_
    refine T.region ?_
    refine TL.cons rfl (V1.t (V1.move' (by (conv => lhs; whnf) <;> rfl)) ?_)
    refine TL.cons rfl (V1.t (V1.move' (by (conv => lhs; whnf) <;> rfl)) ?_)
    refine TL.cons rfl (V1.t (V1.lenSl ty_47 rfl) ?_)
    refine TL.cons rfl (T1.ltI_split rfl rfl (fun h5 => ?_) (fun h5 => ?_))
    ·
      obtain ⟨x, hx0⟩ : ∃ x, kn[i]? = some x := ⟨_, List.getElem?_eq_getElem (by omega)⟩
      obtain ⟨bx, ox, cs_, rfl, hx, hrdx⟩ := hr.term ht hx0 P
      obtain ⟨kx, nx, asx⟩ := x
      obtain ⟨ax, cx, vsx, rfl, hrx, hlx, htx⟩ := hx.inv
      try simp only at *
      refine TL.nil ?_
      refine T.cond_t rfl ?_
      refine T.skip ?_
      refine T.seq ?_
      refine T.block ?_
      refine T.region ?_
      refine TL.cons rfl (V1.t (V1.move' (by (conv => lhs; whnf) <;> rfl)) ?_)
      refine TL.cons rfl (V1.t (V1.move' (by (conv => lhs; whnf) <;> rfl)) ?_)
      refine TL.cons rfl (V1.t (V1.move' (by (conv => lhs; whnf) <;> rfl)) ?_)
      refine TL.cons rfl (V1.t (V1.move' (by (conv => lhs; whnf) <;> rfl)) ?_)
      refine TL.cons rfl (V1.t (V1.indexAddrS ty_47 sz_49 rfl rfl (by omega) (by omega)) ?_)
      refine TL.cons rfl (V1.t (V1.loadN (vs := [.int .i64 kx, .string (bstr nx), .slice ax asx.length cx]) one_49 sz_49 rfl (hrdx _ rfl rfl _ (by repeat (first | exact Inc.nil | assumption | exact Inc.refl | exact Inc.here | apply Inc.app | apply Inc.cons (by repeat (first | exact Find.here | assumption | apply Find.there | apply Find.far)) | apply Inc.skip1 | apply Inc.skip))) rfl) ?_)
      refine TL.cons rfl (T1.callV has_52 rfl rfl (Find_any w0 (Z ++ Ps) hra hta (by omega) (.mk kx nx asx) _ (hx.more (Inc.skip Inc.refl))) (by repeat (first | exact Inc.nil | assumption | exact Inc.refl | exact Inc.here | apply Inc.app | apply Inc.cons (by repeat (first | exact Find.here | assumption | apply Find.there | apply Find.far)) | apply Inc.skip1 | apply Inc.skip)) (fun v_ hv => ?_))
      obtain ⟨r, rfl, hr_⟩ := hv
      obtain ⟨j, rfl, hj⟩ := hr_.at ((hmm _).2 (mat_self (List.mem_append_left _ (List.mem_of_getElem? hx0))))
      refine TL.cons rfl (V1.t (V1.indexAddrS ty_105 sz_4 rfl rfl (by omega) (by have := (List.getElem?_eq_some_iff.1 hj).1; omega)) ?_)
      refine TL.cons rfl (T1.storeE (o := 0 + j * 1) (off := 0) (size := al.length) (cells := (hd).map Value.bool) (cells' := ((hd).set j true).map Value.bool) (v := .bool true) rfl rfl sz_4 rfl (by rw [show 0 + j * 1 - 0 = j by omega]; exact set_map) (by repeat (first | exact Sub.one | apply Sub.there | apply Sub.far)) (Nat.zero_le _) (by rw [List.length_map, hlen]; have := (List.getElem?_eq_some_iff.1 hj).1; omega) ?_)
      refine TL.nil ?_
      refine T.region ?_
      refine TL.cons rfl (V1.t (V1.move' (by (conv => lhs; whnf) <;> rfl)) ?_)
      refine TL.cons rfl (V1.t (V1.add (c := ((i + 1 : Nat) : Int)) rfl rfl (by rw [wrap_i64 _ (by omega) (by omega)]; omega)) ?_)
      refine TL.cons rfl (V1.t (V1.assign' (by (conv => lhs; whnf) <;> rfl)) ?_)
      refine TL.nil ?_
      exact ⟨(i + 1, hd.set j true), ⟨b7, 0, (hd.set j true).map Value.bool, al.length⟩ :: (Z ++ (⟨b3, 0, [.int .i64 kt, .string (bstr nt), .slice at_ ast.length ct_], 3⟩ :: G)), _, (by simp only; omega), (.cons rfl .nil), (.cons rfl (.cons rfl (.cons rfl .nil))), (by repeat (first | exact Take.nil | apply Take.one (by repeat (first | exact Pick.here | apply Pick.there | apply Pick.far)) | apply Take.seg (by repeat (first | exact PickS.last | exact PickS.one | exact PickS.here | exact PickS.nil | apply PickS.there | apply PickS.far)) | exact Take.last (by repeat (first | exact PickS.last | exact PickS.one | exact PickS.here | exact PickS.nil | apply PickS.there | apply PickS.far)))), ⟨rfl, by simp only; omega, by simp only; rw [List.length_set]; exact hlen, fun y hy => (had_set hj hy).elim (hsn y) (fun e => by rw [e]; exact List.mem_of_getElem? hx0), take_all (p := fun y => Had al (hd.set j true) y) hx0 (fun y hy => had_mono (hkn y hy)) ⟨j, hj, by rw [List.getElem?_set_self (by rw [hlen]; exact (List.getElem?_eq_some_iff.1 hj).1)]⟩⟩⟩
    ·
      obtain rfl : i = kn.length := by omega
      rw [List.take_length] at hkn
      have hdi : HdI (· ∈ kn) al hd := ⟨hlen, fun y hy => .known (hsn y hy), hkn⟩
      refine TL.nil ?_
      refine T.cond_f rfl ?_
      refine T.exit ?_
      refine T.seq ?_
      refine T.region ?_
      refine TL.cons rfl (V1.t (V1.assign' (by (conv => lhs; whnf) <;> rfl)) ?_)
      refine TL.nil ?_
      refine T.seq ?_
      refine T.block ?_
      refine T.loopL (σ := Bool × List Bool) (l0 := [(6, _), (7, _)]) (fun x => [(9, .bool x.1)]) (fun x L => L = ⟨b7, 0, (x.2).map Value.bool, al.length⟩ :: (Z ++ (⟨b3, 0, [.int .i64 kt, .string (bstr nt), .slice at_ ast.length ct_], 3⟩ :: G)) ∧ HdI (fun y => y ∈ kn) al x.2 ∧ (x.1 = false → Rnd (fun y => y ∈ kn) al x.2 al.length false x.2)) (fun x => 2 * (al.length - cntT x.2) + (if x.1 then 1 else 0)) (true, hd) (.cons rfl .nil) (.cons (by (conv => lhs; whnf) <;> rfl) (.cons (by (conv => lhs; whnf) <;> rfl) .nil)) (by repeat (first | exact Take.nil | apply Take.one (by repeat (first | exact Pick.here | apply Pick.there | apply Pick.far)) | apply Take.seg (by repeat (first | exact PickS.last | exact PickS.one | exact PickS.here | exact PickS.nil | apply PickS.there | apply PickS.far)) | exact Take.last (by repeat (first | exact PickS.last | exact PickS.one | exact PickS.here | exact PickS.nil | apply PickS.there | apply PickS.far)))) (⟨rfl, hdi, fun h => by cases h⟩) ?_
      rintro ⟨m0, hd0⟩ e_ L ⟨rfl, hdi, hfin⟩
      simp only at hdi hfin
      have hc0 := cnt_le hd0
      rw [hdi.len] at hc0
      refine T.seq ?_
      refine T.seq ?_
      refine T.region ?_
      refine TL.cons rfl (V1.t (V1.move' (by (conv => lhs; whnf) <;> rfl)) ?_)
      rcases Bool.eq_false_or_eq_true m0 with hb | hb <;> subst hb
      ·
        refine TL.nil ?_
        refine T.cond_t rfl ?_
        refine T.skip ?_
        refine T.block ?_
        refine T.seq ?_
        refine T.region ?_
        refine TL.cons rfl (V1.t (V1.assign' (by (conv => lhs; whnf) <;> rfl)) ?_)
        refine TL.nil ?_
        refine T.seq ?_
        refine T.region ?_
        refine TL.cons rfl (V1.t (V1.assign' (by (conv => lhs; whnf) <;> rfl)) ?_)
        refine TL.nil ?_
        refine T.block ?_
        refine T.loopL (σ := Nat × Bool × List Bool) (l0 := [(6, _), (7, _)]) (fun x => [(10, .int .i64 (x.1 : Nat)), (9, .bool x.2.1)]) (fun x L => L = ⟨b7, 0, (x.2.2).map Value.bool, al.length⟩ :: (Z ++ (⟨b3, 0, [.int .i64 kt, .string (bstr nt), .slice at_ ast.length ct_], 3⟩ :: G)) ∧ x.1 ≤ al.length ∧ Rnd (fun y => y ∈ kn) al hd0 x.1 x.2.1 x.2.2) (fun x => al.length - x.1) (0, false, hd0) (.cons rfl (.cons rfl .nil)) (.cons (by (conv => lhs; whnf) <;> rfl) (.cons (by (conv => lhs; whnf) <;> rfl) .nil)) (by repeat (first | exact Take.nil | apply Take.one (by repeat (first | exact Pick.here | apply Pick.there | apply Pick.far)) | apply Take.seg (by repeat (first | exact PickS.last | exact PickS.one | exact PickS.here | exact PickS.nil | apply PickS.there | apply PickS.far)) | exact Take.last (by repeat (first | exact PickS.last | exact PickS.one | exact PickS.here | exact PickS.nil | apply PickS.there | apply PickS.far)))) (⟨rfl, Nat.zero_le _, Rnd.start hdi⟩) ?_
        rintro ⟨i, more, hd⟩ e_ L ⟨rfl, hi, hrd⟩
        simp only at hi hrd
        have hlen := hrd.base.len
        refine T.seq ?_
        refine T.seq ?_
        refine T.region ?_
        refine TL.cons rfl (V1.t (V1.move' (by (conv => lhs; whnf) <;> rfl)) ?_)
        refine TL.cons rfl (V1.t (V1.move' (by (conv => lhs; whnf) <;> rfl)) ?_)
        refine TL.cons rfl (V1.t (V1.lenSl ty_47 rfl) ?_)
        refine TL.cons rfl (T1.ltI_split rfl rfl (fun h12 => ?_) (fun h12 => ?_))
        ·
          try simp only at h12
          obtain ⟨x, hx0⟩ : ∃ x, al[i]? = some x := ⟨_, List.getElem?_eq_getElem (by omega)⟩
          have hshx := mat_shp (fun y hy => (hok y hy).1) ((hmm _).1 (List.mem_of_getElem? hx0))
          obtain ⟨bx, ox, cs_, rfl, hx, hrdx⟩ := hra.term hta hx0 P
          obtain ⟨kx, nx, asx⟩ := x
          obtain ⟨ax, cx, vsx, rfl, hrx, hlx, htx⟩ := hx.inv
          try simp only at *
          have hm4 := headOk_le4 (shp_mk.1 hshx).1
          have hmx := List.mem_of_getElem? hx0
          refine TL.nil ?_
          refine T.cond_t rfl ?_
          refine T.skip ?_
          refine T.seq ?_
          refine T.block ?_
          refine T.seq ?_
          refine T.region ?_
          refine TL.cons rfl (V1.t (V1.move' (by (conv => lhs; whnf) <;> rfl)) ?_)
          refine TL.cons rfl (V1.t (V1.move' (by (conv => lhs; whnf) <;> rfl)) ?_)
          refine TL.cons rfl (V1.t (V1.indexAddrS ty_47 sz_49 rfl rfl (by omega) (by omega)) ?_)
          refine TL.cons rfl (V1.t (V1.loadN (vs := [.int .i64 kx, .string (bstr nx), .slice ax asx.length cx]) one_49 sz_49 rfl (hrdx _ rfl rfl _ (by repeat (first | exact Inc.nil | assumption | exact Inc.refl | exact Inc.here | apply Inc.app | apply Inc.cons (by repeat (first | exact Find.here | assumption | apply Find.there | apply Find.far)) | apply Inc.skip1 | apply Inc.skip))) rfl) ?_)
          refine TL.cons rfl (T1.allocN 3 zr_49 rfl (fun b11 => ?_))
          refine TL.cons rfl (T1.storeN rfl rfl sz_49 (ones rfl) (by repeat (first | exact Sub.one | apply Sub.there | apply Sub.far)) (by rfl) (by rfl) ?_)
          refine TL.nil ?_
          refine T.seq ?_
          refine T.region ?_
          refine TL.cons rfl (V1.t (V1.fieldAddr fl_49_2 rfl) ?_)
          refine TL.cons rfl (V1.t (V1.load1 one_47 rfl (.own (by repeat (first | exact Find.here | assumption | apply Find.there | apply Find.far)) (by rfl))) ?_)
          refine TL.cons rfl (V1.t (V1.lenSl ty_47 rfl) ?_)
          refine TL.cons rfl (T1.make1 asx.length asx.length ty_84 sz_3 by_3 zr_3 rfl rfl rfl (Nat.le_refl _) (by omega) (by omega) (fun b12 => ?_))
          refine TL.cons rfl (V1.t (V1.assign' (by (conv => lhs; whnf) <;> rfl)) ?_)
          refine TL.nil ?_
          refine T.seq ?_
          refine T.seq ?_
          refine T.live (l := [(6, _), (7, _), (9, _), (10, _), (11, _), (12, _)]) (.cons (by (conv => lhs; whnf) <;> rfl) (.cons (by (conv => lhs; whnf) <;> rfl) (.cons (by (conv => lhs; whnf) <;> rfl) (.cons (by (conv => lhs; whnf) <;> rfl) (.cons (by (conv => lhs; whnf) <;> rfl) (.cons (by (conv => lhs; whnf) <;> rfl) .nil)))))) (fun e_ => ?_)
          refine T.region ?_
          refine TL.cons rfl (V1.t (V1.assign' (by (conv => lhs; whnf) <;> rfl)) ?_)
          refine TL.nil ?_
          refine T.block ?_
          refine T.loopL (σ := Nat × List Nat) (l0 := [(6, _), (7, _), (9, _), (10, _), (11, _), (12, _)]) (fun x => [(13, .int .i64 (x.1 : Nat))]) (fun x L => L = ⟨b12, 0, plcC (x.2) asx.length, asx.length⟩ :: ⟨b11, 0, [.int .i64 kx, .string (bstr nx), .slice ax asx.length cx], 3⟩ :: ⟨b7, 0, (hd).map Value.bool, al.length⟩ :: (Z ++ (⟨b3, 0, [.int .i64 kt, .string (bstr nt), .slice at_ ast.length ct_], 3⟩ :: G)) ∧ x.1 ≤ asx.length ∧ Plc al asx x.1 x.2) (fun x => asx.length - x.1) (0, []) (.cons rfl .nil) (.cons (by (conv => lhs; whnf) <;> rfl) (.cons (by (conv => lhs; whnf) <;> rfl) (.cons (by (conv => lhs; whnf) <;> rfl) (.cons (by (conv => lhs; whnf) <;> rfl) (.cons (by (conv => lhs; whnf) <;> rfl) (.cons (by (conv => lhs; whnf) <;> rfl) .nil)))))) (by repeat (first | exact Take.nil | apply Take.one (by repeat (first | exact Pick.here | apply Pick.there | apply Pick.far)) | apply Take.seg (by repeat (first | exact PickS.last | exact PickS.one | exact PickS.here | exact PickS.nil | apply PickS.there | apply PickS.far)) | exact Take.last (by repeat (first | exact PickS.last | exact PickS.one | exact PickS.here | exact PickS.nil | apply PickS.there | apply PickS.far)))) (⟨rfl, Nat.zero_le _, rfl, fun i hi => absurd hi (Nat.not_lt_zero i)⟩) ?_
          rintro ⟨k, js⟩ e_ L ⟨rfl, hk, hpl⟩
          simp only at hk hpl
          refine T.seq ?_
          refine T.seq ?_
          refine T.region ?_
          refine TL.cons rfl (V1.t (V1.move' (by (conv => lhs; whnf) <;> rfl)) ?_)
          refine TL.cons rfl (V1.t (V1.fieldAddr fl_49_2 rfl) ?_)
          refine TL.cons rfl (V1.t (V1.load1 one_47 rfl (.own (by repeat (first | exact Find.here | assumption | apply Find.there | apply Find.far)) (by rfl))) ?_)
          refine TL.cons rfl (V1.t (V1.lenSl ty_47 rfl) ?_)
          refine TL.cons rfl (T1.ltI_split rfl rfl (fun h17 => ?_) (fun h17 => ?_))
          ·
            obtain ⟨y, hy0⟩ : ∃ y, asx[k]? = some y := ⟨_, List.getElem?_eq_getElem (by omega)⟩
            obtain ⟨by_, oy, cs_, rfl, hy, hrdy⟩ := hrx.term htx hy0 P
            obtain ⟨ky, ny, asy⟩ := y
            obtain ⟨ay, cy, vsy, rfl, hry, hly, hty⟩ := hy.inv
            try simp only at *
            refine TL.nil ?_
            refine T.cond_t rfl ?_
            refine T.skip ?_
            refine T.seq ?_
            refine T.block ?_
            refine T.region ?_
            refine TL.cons rfl (V1.t (V1.move' (by (conv => lhs; whnf) <;> rfl)) ?_)
            refine TL.cons rfl (V1.t (V1.move' (by (conv => lhs; whnf) <;> rfl)) ?_)
            refine TL.cons rfl (V1.t (V1.move' (by (conv => lhs; whnf) <;> rfl)) ?_)
            refine TL.cons rfl (V1.t (V1.fieldAddr fl_49_2 rfl) ?_)
            refine TL.cons rfl (V1.t (V1.load1 one_47 rfl (.own (by repeat (first | exact Find.here | assumption | apply Find.there | apply Find.far)) (by rfl))) ?_)
            refine TL.cons rfl (V1.t (V1.move' (by (conv => lhs; whnf) <;> rfl)) ?_)
            refine TL.cons rfl (V1.t (V1.indexAddrS ty_47 sz_49 rfl rfl (by omega) (by omega)) ?_)
            refine TL.cons rfl (V1.t (V1.loadN (vs := [.int .i64 ky, .string (bstr ny), .slice ay asy.length cy]) one_49 sz_49 rfl (hrdy _ rfl rfl _ (by repeat (first | exact Inc.nil | assumption | exact Inc.refl | exact Inc.here | apply Inc.app | apply Inc.cons (by repeat (first | exact Find.here | assumption | apply Find.there | apply Find.far)) | apply Inc.skip1 | apply Inc.skip))) rfl) ?_)
            refine TL.cons rfl (T1.callV has_52 rfl rfl (Find_any w0 (Z ++ Ps) hra hta (by omega) (.mk ky ny asy) _ hy) (by repeat (first | exact Inc.nil | assumption | exact Inc.refl | exact Inc.here | apply Inc.app | apply Inc.cons (by repeat (first | exact Find.here | assumption | apply Find.there | apply Find.far)) | apply Inc.skip1 | apply Inc.skip)) (fun v_ hv => ?_))
            obtain ⟨r, rfl, hr_⟩ := hv
            obtain ⟨j, rfl, hj⟩ := hr_.at ((hmm _).2 (mat_arg (y := (.mk kx nx asx)) ((hmm _).1 hmx) (List.mem_of_getElem? hy0)))
            refine TL.cons rfl (V1.t (V1.indexAddrS ty_84 sz_3 rfl rfl (by omega) (by omega)) ?_)
            refine TL.cons rfl (T1.storeE (o := 0 + k * 1) (off := 0) (size := asx.length) (cells := plcC js asx.length) (cells' := plcC (js ++ [j]) asx.length) (v := .int .i64 (j : Nat)) rfl rfl sz_3 rfl (by rw [show 0 + k * 1 - 0 = k by omega]; exact (plc_next hpl hy0 hj (by omega)).2) (by repeat (first | exact Sub.one | apply Sub.there | apply Sub.far)) (Nat.zero_le _) (by rw [plcC_len (by have := hpl.1; omega)]; omega) ?_)
            refine TL.nil ?_
            refine T.live (l := [(6, _), (7, _), (9, _), (10, _), (11, _), (12, _), (13, _)]) (.cons (by (conv => lhs; whnf) <;> rfl) (.cons (by (conv => lhs; whnf) <;> rfl) (.cons (by (conv => lhs; whnf) <;> rfl) (.cons (by (conv => lhs; whnf) <;> rfl) (.cons (by (conv => lhs; whnf) <;> rfl) (.cons (by (conv => lhs; whnf) <;> rfl) (.cons (by (conv => lhs; whnf) <;> rfl) .nil))))))) (fun e_ => ?_)
            refine T.region ?_
            refine TL.cons rfl (V1.t (V1.move' (by (conv => lhs; whnf) <;> rfl)) ?_)
            refine TL.cons rfl (V1.t (V1.add (c := ((k + 1 : Nat) : Int)) rfl rfl (by rw [wrap_i64 _ (by omega) (by omega)]; omega)) ?_)
            refine TL.cons rfl (V1.t (V1.assign' (by (conv => lhs; whnf) <;> rfl)) ?_)
            refine TL.nil ?_
            exact ⟨(k + 1, js ++ [j]), ⟨b12, 0, plcC (js ++ [j]) asx.length, asx.length⟩ :: ⟨b11, 0, [.int .i64 kx, .string (bstr nx), .slice (some ⟨by_, oy, none⟩) asx.length cx], 3⟩ :: ⟨b7, 0, (hd).map Value.bool, al.length⟩ :: (Z ++ (⟨b3, 0, [.int .i64 kt, .string (bstr nt), .slice at_ ast.length ct_], 3⟩ :: G)), _, (by simp only; omega), (.cons rfl .nil), (.cons rfl (.cons rfl (.cons rfl (.cons rfl (.cons rfl (.cons rfl .nil)))))), (by repeat (first | exact Take.nil | apply Take.one (by repeat (first | exact Pick.here | apply Pick.there | apply Pick.far)) | apply Take.seg (by repeat (first | exact PickS.last | exact PickS.one | exact PickS.here | exact PickS.nil | apply PickS.there | apply PickS.far)) | exact Take.last (by repeat (first | exact PickS.last | exact PickS.one | exact PickS.here | exact PickS.nil | apply PickS.there | apply PickS.far)))), ⟨rfl, by simp only; omega, (plc_next (m := asx.length) hpl hy0 hj (by omega)).1⟩⟩
          ·
            obtain rfl : k = asx.length := by omega
            refine TL.nil ?_
            refine T.cond_f rfl ?_
            refine T.exit ?_
            refine T.seq ?_
            refine T.region ?_
            refine TL.cons rfl (V1.t (V1.move' (by (conv => lhs; whnf) <;> rfl)) ?_)
            refine TL.cons rfl (V1.t (V1.lenSl ty_84 rfl) ?_)
            refine TL.cons rfl (V1.t (V1.gtI (r := decide ((asx.length : Int) > 0)) rfl rfl rfl) ?_)
            refine TL.cons rfl (V1.t (V1.assign' (by (conv => lhs; whnf) <;> rfl)) ?_)
            refine TL.nil ?_
            refine T.seq ?_
            refine T.seq ?_
            refine T.region ?_
            refine TL.cons rfl (V1.t (V1.assign' (by (conv => lhs; whnf) <;> rfl)) ?_)
            refine TL.nil ?_
            refine T.block ?_
            refine T.loopL (σ := Nat × Bool) (l0 := [(6, _), (7, _), (9, _), (10, _), (11, _), (12, _)]) (fun x => [(15, .int .i64 (x.1 : Nat)), (14, .bool x.2)]) (fun x L => L = ⟨b12, 0, plcC (js) asx.length, asx.length⟩ :: ⟨b11, 0, [.int .i64 kx, .string (bstr nx), .slice ax asx.length cx], 3⟩ :: ⟨b7, 0, (hd).map Value.bool, al.length⟩ :: (Z ++ (⟨b3, 0, [.int .i64 kt, .string (bstr nt), .slice at_ ast.length ct_], 3⟩ :: G)) ∧ x.1 ≤ asx.length ∧ (x.2 = true ↔ asx ≠ [] ∧ ∀ a ∈ asx.take x.1, Had al hd a)) (fun x => asx.length - x.1) (0, decide ((asx.length : Int) > 0)) (.cons rfl (.cons rfl .nil)) (.cons (by (conv => lhs; whnf) <;> rfl) (.cons (by (conv => lhs; whnf) <;> rfl) (.cons (by (conv => lhs; whnf) <;> rfl) (.cons (by (conv => lhs; whnf) <;> rfl) (.cons (by (conv => lhs; whnf) <;> rfl) (.cons (by (conv => lhs; whnf) <;> rfl) .nil)))))) (by repeat (first | exact Take.nil | apply Take.one (by repeat (first | exact Pick.here | apply Pick.there | apply Pick.far)) | apply Take.seg (by repeat (first | exact PickS.last | exact PickS.one | exact PickS.here | exact PickS.nil | apply PickS.there | apply PickS.far)) | exact Take.last (by repeat (first | exact PickS.last | exact PickS.one | exact PickS.here | exact PickS.nil | apply PickS.there | apply PickS.far)))) (⟨rfl, Nat.zero_le _, by cases asx <;> simp⟩) ?_
            rintro ⟨k, w⟩ e_ L ⟨rfl, hk, hw⟩
            simp only at hk hw
            refine T.seq ?_
            refine T.seq ?_
            refine T.region ?_
            refine TL.cons rfl (V1.t (V1.move' (by (conv => lhs; whnf) <;> rfl)) ?_)
            refine TL.cons rfl (V1.t (V1.move' (by (conv => lhs; whnf) <;> rfl)) ?_)
            refine TL.cons rfl (V1.t (V1.lenSl ty_84 rfl) ?_)
            refine TL.cons rfl (T1.ltI_split rfl rfl (fun h22 => ?_) (fun h22 => ?_))
            ·
              obtain ⟨j, y, hjc, hy0, hj⟩ := plc_get (m := asx.length) hpl (i := k) (by omega)
              obtain ⟨b, hb⟩ : ∃ b, hd[j]? = some b := ⟨_, List.getElem?_eq_getElem (by rw [hlen]; exact (List.getElem?_eq_some_iff.1 hj).1)⟩
              refine TL.nil ?_
              refine T.cond_t rfl ?_
              refine T.skip ?_
              refine T.seq ?_
              refine T.block ?_
              refine T.region ?_
              refine TL.cons rfl (V1.t (V1.move' (by (conv => lhs; whnf) <;> rfl)) ?_)
              rcases Bool.eq_false_or_eq_true w with hwb | hwb <;> subst hwb
              ·
                refine TL.cons rfl (V1.t (V1.move' (by (conv => lhs; whnf) <;> rfl)) ?_)
                refine TL.cons rfl (V1.t (V1.move' (by (conv => lhs; whnf) <;> rfl)) ?_)
                refine TL.cons rfl (V1.t (V1.move' (by (conv => lhs; whnf) <;> rfl)) ?_)
                refine TL.cons rfl (V1.t (V1.move' (by (conv => lhs; whnf) <;> rfl)) ?_)
                refine TL.cons rfl (V1.t (V1.indexAddrS ty_84 sz_3 rfl rfl (by omega) (by omega)) ?_)
                refine TL.cons rfl (V1.t (V1.load1 (v := .int .i64 (j : Nat)) one_3 rfl (int_rd (by repeat (first | exact Find.here | assumption | apply Find.there | apply Find.far)) hjc)) ?_)
                refine TL.cons rfl (V1.t (V1.indexAddrS ty_105 sz_4 rfl rfl (by omega) (by have := (List.getElem?_eq_some_iff.1 hj).1; omega)) ?_)
                refine TL.cons rfl (V1.t (V1.load1 (v := .bool b) one_4 rfl (bool_rd (by repeat (first | exact Find.here | assumption | apply Find.there | apply Find.far)) hb)) ?_)
                refine TL.cons rfl (V1.t (V1.pick rfl (by (conv => lhs; whnf) <;> rfl)) ?_)
                refine TL.cons rfl (V1.t (V1.assign' (by (conv => lhs; whnf) <;> rfl)) ?_)
                refine TL.nil ?_
                refine T.live (l := [(6, _), (7, _), (9, _), (10, _), (11, _), (12, _), (14, _), (15, _)]) (.cons (by (conv => lhs; whnf) <;> rfl) (.cons (by (conv => lhs; whnf) <;> rfl) (.cons (by (conv => lhs; whnf) <;> rfl) (.cons (by (conv => lhs; whnf) <;> rfl) (.cons (by (conv => lhs; whnf) <;> rfl) (.cons (by (conv => lhs; whnf) <;> rfl) (.cons (by (conv => lhs; whnf) <;> rfl) (.cons (by (conv => lhs; whnf) <;> rfl) .nil)))))))) (fun e_ => ?_)
                refine T.region ?_
                refine TL.cons rfl (V1.t (V1.move' (by (conv => lhs; whnf) <;> rfl)) ?_)
                refine TL.cons rfl (V1.t (V1.add (c := ((k + 1 : Nat) : Int)) rfl rfl (by rw [wrap_i64 _ (by omega) (by omega)]; omega)) ?_)
                refine TL.cons rfl (V1.t (V1.assign' (by (conv => lhs; whnf) <;> rfl)) ?_)
                refine TL.nil ?_
                exact ⟨(k + 1, b), ⟨b12, 0, plcC (js) asx.length, asx.length⟩ :: ⟨b11, 0, [.int .i64 kx, .string (bstr nx), .slice ax asx.length cx], 3⟩ :: ⟨b7, 0, (hd).map Value.bool, al.length⟩ :: (Z ++ (⟨b3, 0, [.int .i64 kt, .string (bstr nt), .slice at_ ast.length ct_], 3⟩ :: G)), _, (by simp only; omega), (.cons rfl (.cons rfl .nil)), (.cons rfl (.cons rfl (.cons rfl (.cons rfl (.cons rfl (.cons rfl .nil)))))), (by repeat (first | exact Take.nil | apply Take.one (by repeat (first | exact Pick.here | apply Pick.there | apply Pick.far)) | apply Take.seg (by repeat (first | exact PickS.last | exact PickS.one | exact PickS.here | exact PickS.nil | apply PickS.there | apply PickS.far)) | exact Take.last (by repeat (first | exact PickS.last | exact PickS.one | exact PickS.here | exact PickS.nil | apply PickS.there | apply PickS.far)))), ⟨rfl, by simp only; omega, by simpa using whole_next hw hy0 (had_b hnd hj hb)⟩⟩
              ·
                refine TL.cons rfl (V1.t (V1.move' (by (conv => lhs; whnf) <;> rfl)) ?_)
                refine TL.no rfl ?_
                refine TL.no rfl ?_
                refine TL.no rfl ?_
                refine TL.no rfl ?_
                refine TL.no rfl ?_
                refine TL.no rfl ?_
                refine TL.no rfl ?_
                refine TL.cons rfl (V1.t (V1.pick rfl (by (conv => lhs; whnf) <;> rfl)) ?_)
                refine TL.cons rfl (V1.t (V1.assign' (by (conv => lhs; whnf) <;> rfl)) ?_)
                refine TL.nil ?_
                refine T.live (l := [(6, _), (7, _), (9, _), (10, _), (11, _), (12, _), (14, _), (15, _)]) (.cons (by (conv => lhs; whnf) <;> rfl) (.cons (by (conv => lhs; whnf) <;> rfl) (.cons (by (conv => lhs; whnf) <;> rfl) (.cons (by (conv => lhs; whnf) <;> rfl) (.cons (by (conv => lhs; whnf) <;> rfl) (.cons (by (conv => lhs; whnf) <;> rfl) (.cons (by (conv => lhs; whnf) <;> rfl) (.cons (by (conv => lhs; whnf) <;> rfl) .nil)))))))) (fun e_ => ?_)
                refine T.region ?_
                refine TL.cons rfl (V1.t (V1.move' (by (conv => lhs; whnf) <;> rfl)) ?_)
                refine TL.cons rfl (V1.t (V1.add (c := ((k + 1 : Nat) : Int)) rfl rfl (by rw [wrap_i64 _ (by omega) (by omega)]; omega)) ?_)
                refine TL.cons rfl (V1.t (V1.assign' (by (conv => lhs; whnf) <;> rfl)) ?_)
                refine TL.nil ?_
                exact ⟨(k + 1, false), ⟨b12, 0, plcC (js) asx.length, asx.length⟩ :: ⟨b11, 0, [.int .i64 kx, .string (bstr nx), .slice ax asx.length cx], 3⟩ :: ⟨b7, 0, (hd).map Value.bool, al.length⟩ :: (Z ++ (⟨b3, 0, [.int .i64 kt, .string (bstr nt), .slice at_ ast.length ct_], 3⟩ :: G)), _, (by simp only; omega), (.cons rfl (.cons rfl .nil)), (.cons rfl (.cons rfl (.cons rfl (.cons rfl (.cons rfl (.cons rfl .nil)))))), (by repeat (first | exact Take.nil | apply Take.one (by repeat (first | exact Pick.here | apply Pick.there | apply Pick.far)) | apply Take.seg (by repeat (first | exact PickS.last | exact PickS.one | exact PickS.here | exact PickS.nil | apply PickS.there | apply PickS.far)) | exact Take.last (by repeat (first | exact PickS.last | exact PickS.one | exact PickS.here | exact PickS.nil | apply PickS.there | apply PickS.far)))), ⟨rfl, by simp only; omega, by simpa using whole_next hw hy0 (had_b hnd hj hb)⟩⟩
            ·
              obtain rfl : k = asx.length := by omega
              rw [List.take_length] at hw
              refine TL.nil ?_
              refine T.cond_f rfl ?_
              refine T.exit ?_
              refine T.cut (σ := Bool) (l0 := [(6, _), (7, _), (9, _), (10, _), (11, _), (12, _)]) (fun x => [(14, .bool x)]) (fun x L => L = ⟨b12, 0, plcC (js) asx.length, asx.length⟩ :: ⟨b11, 0, [.int .i64 kx, .string (bstr nx), .slice ax asx.length cx], 3⟩ :: ⟨b7, 0, (hd).map Value.bool, al.length⟩ :: (Z ++ (⟨b3, 0, [.int .i64 kt, .string (bstr nt), .slice at_ ast.length ct_], 3⟩ :: G)) ∧ (x = true ↔ Whole (Had al hd) (.mk kx nx asx))) (.cons (by (conv => lhs; whnf) <;> rfl) (.cons (by (conv => lhs; whnf) <;> rfl) (.cons (by (conv => lhs; whnf) <;> rfl) (.cons (by (conv => lhs; whnf) <;> rfl) (.cons (by (conv => lhs; whnf) <;> rfl) (.cons (by (conv => lhs; whnf) <;> rfl) .nil)))))) ?_ ?_
              ·
                refine T.seq ?_
                refine T.region ?_
                refine TL.cons rfl (V1.t (V1.fieldAddr fl_49_0 rfl) ?_)
                refine TL.cons rfl (V1.t (V1.load1 one_3 rfl (.own (by repeat (first | exact Find.here | assumption | apply Find.there | apply Find.far)) (by rfl))) ?_)
                refine TL.cons rfl (T1.eqI_split rfl rfl (fun h25 => ?_) (fun h25 => ?_))
                ·
                  subst h25
                  obtain ⟨hlen2, rfl⟩ := headOk_two (shp_mk.1 hshx).1 (by decide)
                  obtain ⟨p, q, rfl⟩ : ∃ p q, asx = [p, q] := by match asx, hlen2 with | [p, q], _ => exact ⟨p, q, rfl⟩
                  obtain ⟨bp, op_, csp, rfl, hp, hrdp⟩ := hrx.term (i := 0) (x := p) htx rfl P
                  obtain ⟨bq, oq_, csq, hbq, hq, hrdq⟩ := hrx.term (i := 1) (x := q) htx rfl P
                  cases hbq
                  obtain ⟨kp, np, asp⟩ := p
                  obtain ⟨ap, cp, vsp, rfl, hrp, hlp, htp⟩ := hp.inv
                  obtain ⟨kq, nq, asq⟩ := q
                  obtain ⟨aq, cq, vsq, rfl, hrq, hlq, htq⟩ := hq.inv
                  try simp only [List.length_cons, List.length_nil] at *
                  refine TL.nil ?_
                  refine T.cond_t rfl ?_
                  refine T.seq ?_
                  refine T.region ?_
                  refine TL.cons rfl (V1.t (V1.move' (by (conv => lhs; whnf) <;> rfl)) ?_)
                  refine TL.cons rfl (V1.t (V1.fieldAddr fl_49_2 rfl) ?_)
                  refine TL.cons rfl (V1.t (V1.load1 one_47 rfl (.own (by repeat (first | exact Find.here | assumption | apply Find.there | apply Find.far)) (by rfl))) ?_)
                  refine TL.cons rfl (V1.t (V1.indexAddrS ty_47 sz_49 rfl rfl (by decide) (by decide)) ?_)
                  refine TL.cons rfl (V1.t (V1.loadN (vs := [.int .i64 kp, .string (bstr np), .slice ap asp.length cp]) one_49 sz_49 rfl (hrdp _ rfl rfl _ (by repeat (first | exact Inc.nil | assumption | exact Inc.refl | exact Inc.here | apply Inc.app | apply Inc.cons (by repeat (first | exact Find.here | assumption | apply Find.there | apply Find.far)) | apply Inc.skip1 | apply Inc.skip))) rfl) ?_)
                  refine TL.cons rfl (T1.buildOne (cs := [.int .i64 kp, .string (bstr np), .slice ap asp.length cp]) ty_47 sz_49 zr_49 (by decide) rfl (by rfl) (fun bja_ => ?_))
                  refine TL.cons rfl (V1.t (V1.buildF pl_49 zr_49 (.one rfl (by (conv => lhs; whnf) <;> rfl) rfl (.one rfl (by (conv => lhs; whnf) <;> rfl) rfl .nil)) (by repeat (first | exact FillL.nil | exact SetN.done | apply SetN.here | apply SetN.there | apply FillL.cons))) ?_)
                  refine TL.cons rfl (T1.callV has_52 rfl rfl (Find_any w0 (⟨⟨bja_, some 49⟩, 0, [.int .i64 kp, .string (bstr np), .slice ap asp.length cp], 3⟩ :: (Z ++ Ps)) (hra.more (Inc.skip1 Inc.refl)) (hta.more (Inc.skip1 Inc.refl)) (by omega) (pub (.mk kp np asp)) _ (TmR.mkN (nm := []) (n := 1) rfl (RowR.own (List.mem_cons_self ..) rfl) (by decide) (TmsR.one (hp.more (Inc.skip1 Inc.refl))))) (by repeat (first | exact Inc.nil | assumption | exact Inc.refl | exact Inc.here | apply Inc.app | apply Inc.cons (by repeat (first | exact Find.here | assumption | apply Find.there | apply Find.far)) | apply Inc.skip1 | apply Inc.skip)) (fun v_ hv => ?_))
                  obtain ⟨r, rfl, hr_⟩ := hv
                  obtain ⟨ja, rfl, hja⟩ := hr_.at ((hmm _).2 (mat_pub ((hmm _).1 hmx)).1)
                  refine TL.cons rfl (V1.t (V1.assign' (by (conv => lhs; whnf) <;> rfl)) ?_)
                  refine TL.nil ?_
                  refine T.seq ?_
                  refine T.live (l := [(6, _), (7, _), (9, _), (10, _), (11, _), (12, _), (16, _)]) (.cons (by (conv => lhs; whnf) <;> rfl) (.cons (by (conv => lhs; whnf) <;> rfl) (.cons (by (conv => lhs; whnf) <;> rfl) (.cons (by (conv => lhs; whnf) <;> rfl) (.cons (by (conv => lhs; whnf) <;> rfl) (.cons (by (conv => lhs; whnf) <;> rfl) (.cons (by (conv => lhs; whnf) <;> rfl) .nil))))))) (fun e_ => ?_)
                  refine T.region ?_
                  refine TL.cons rfl (V1.t (V1.move' (by (conv => lhs; whnf) <;> rfl)) ?_)
                  refine TL.cons rfl (V1.t (V1.fieldAddr fl_49_2 rfl) ?_)
                  refine TL.cons rfl (V1.t (V1.load1 one_47 rfl (.own (by repeat (first | exact Find.here | assumption | apply Find.there | apply Find.far)) (by rfl))) ?_)
                  refine TL.cons rfl (V1.t (V1.indexAddrS ty_47 sz_49 rfl rfl (by decide) (by decide)) ?_)
                  refine TL.cons rfl (V1.t (V1.loadN (vs := [.int .i64 kq, .string (bstr nq), .slice aq asq.length cq]) one_49 sz_49 rfl (hrdq _ rfl rfl _ (by repeat (first | exact Inc.nil | assumption | exact Inc.refl | exact Inc.here | apply Inc.app | apply Inc.cons (by repeat (first | exact Find.here | assumption | apply Find.there | apply Find.far)) | apply Inc.skip1 | apply Inc.skip))) rfl) ?_)
                  refine TL.cons rfl (T1.buildOne (cs := [.int .i64 kq, .string (bstr nq), .slice aq asq.length cq]) ty_47 sz_49 zr_49 (by decide) rfl (by rfl) (fun bjb_ => ?_))
                  refine TL.cons rfl (V1.t (V1.buildF pl_49 zr_49 (.one rfl (by (conv => lhs; whnf) <;> rfl) rfl (.one rfl (by (conv => lhs; whnf) <;> rfl) rfl .nil)) (by repeat (first | exact FillL.nil | exact SetN.done | apply SetN.here | apply SetN.there | apply FillL.cons))) ?_)
                  refine TL.cons rfl (T1.callV has_52 rfl rfl (Find_any w0 (⟨⟨bjb_, some 49⟩, 0, [.int .i64 kq, .string (bstr nq), .slice aq asq.length cq], 3⟩ :: (Z ++ Ps)) (hra.more (Inc.skip1 Inc.refl)) (hta.more (Inc.skip1 Inc.refl)) (by omega) (pub (.mk kq nq asq)) _ (TmR.mkN (nm := []) (n := 1) rfl (RowR.own (List.mem_cons_self ..) rfl) (by decide) (TmsR.one (hq.more (Inc.skip1 Inc.refl))))) (by repeat (first | exact Inc.nil | assumption | exact Inc.refl | exact Inc.here | apply Inc.app | apply Inc.cons (by repeat (first | exact Find.here | assumption | apply Find.there | apply Find.far)) | apply Inc.skip1 | apply Inc.skip)) (fun v_ hv => ?_))
                  obtain ⟨r, rfl, hr_⟩ := hv
                  obtain ⟨jb, rfl, hjb⟩ := hr_.at ((hmm _).2 (mat_pub ((hmm _).1 hmx)).2)
                  obtain ⟨j0, p_, hjc0, hp0, hj0⟩ := plc_get (m := 2) hpl (i := 0) (by decide)
                  obtain rfl := Option.some.inj hp0
                  obtain ⟨j1, q_, hjc1, hq0, hj1⟩ := plc_get (m := 2) hpl (i := 1) (by decide)
                  obtain rfl := Option.some.inj hq0
                  obtain ⟨b0, hb0⟩ : ∃ b, hd[j0]? = some b := ⟨_, List.getElem?_eq_getElem (by rw [hlen]; exact (List.getElem?_eq_some_iff.1 hj0).1)⟩
                  obtain ⟨b1, hb1⟩ : ∃ b, hd[j1]? = some b := ⟨_, List.getElem?_eq_getElem (by rw [hlen]; exact (List.getElem?_eq_some_iff.1 hj1).1)⟩
                  obtain ⟨ba, hba⟩ : ∃ b, hd[ja]? = some b := ⟨_, List.getElem?_eq_getElem (by rw [hlen]; exact (List.getElem?_eq_some_iff.1 hja).1)⟩
                  obtain ⟨bb, hbb⟩ : ∃ b, hd[jb]? = some b := ⟨_, List.getElem?_eq_getElem (by rw [hlen]; exact (List.getElem?_eq_some_iff.1 hjb).1)⟩
                  refine TL.cons rfl (V1.t (V1.assign' (by (conv => lhs; whnf) <;> rfl)) ?_)
                  refine TL.nil ?_
                  refine T.region ?_
                  refine TL.cons rfl (V1.t (V1.move' (by (conv => lhs; whnf) <;> rfl)) ?_)
                  refine TL.cons rfl (V1.t (V1.move' (by (conv => lhs; whnf) <;> rfl)) ?_)
                  refine TL.cons rfl (V1.t (V1.indexAddrS ty_84 sz_3 rfl rfl (by decide) (by decide)) ?_)
                  refine TL.cons rfl (V1.t (V1.load1 (v := .int .i64 (j0 : Nat)) one_3 rfl (int_rd (k := 0) (by repeat (first | exact Find.here | assumption | apply Find.there | apply Find.far)) hjc0)) ?_)
                  refine TL.cons rfl (V1.t (V1.indexAddrS ty_105 sz_4 rfl rfl (by omega) (by have := (List.getElem?_eq_some_iff.1 hj0).1; omega)) ?_)
                  refine TL.cons rfl (V1.t (V1.load1 (v := .bool b0) one_4 rfl (bool_rd (by repeat (first | exact Find.here | assumption | apply Find.there | apply Find.far)) hb0)) ?_)
                  rcases Bool.eq_false_or_eq_true b0 with e_b0 | e_b0 <;> subst e_b0
                  ·
                    refine TL.cons rfl (V1.t (V1.move' (by (conv => lhs; whnf) <;> rfl)) ?_)
                    refine TL.cons rfl (V1.t (V1.move' (by (conv => lhs; whnf) <;> rfl)) ?_)
                    refine TL.cons rfl (V1.t (V1.move' (by (conv => lhs; whnf) <;> rfl)) ?_)
                    refine TL.cons rfl (V1.t (V1.indexAddrS ty_105 sz_4 rfl rfl (by omega) (by have := (List.getElem?_eq_some_iff.1 hjb).1; omega)) ?_)
                    refine TL.cons rfl (V1.t (V1.load1 (v := .bool bb) one_4 rfl (bool_rd (by repeat (first | exact Find.here | assumption | apply Find.there | apply Find.far)) hbb)) ?_)
                    rcases Bool.eq_false_or_eq_true bb with e_bb | e_bb <;> subst e_bb
                    ·
                      refine TL.cons rfl (V1.t (V1.pick rfl (by (conv => lhs; whnf) <;> rfl)) ?_)
                      refine TL.cons rfl (V1.t (V1.move' (by (conv => lhs; whnf) <;> rfl)) ?_)
                      refine TL.no rfl ?_
                      refine TL.no rfl ?_
                      refine TL.no rfl ?_
                      refine TL.no rfl ?_
                      refine TL.no rfl ?_
                      refine TL.no rfl ?_
                      refine TL.no rfl ?_
                      refine TL.no rfl ?_
                      refine TL.no rfl ?_
                      refine TL.no rfl ?_
                      refine TL.no rfl ?_
                      refine TL.no rfl ?_
                      refine TL.cons rfl (V1.t (V1.pick rfl (by (conv => lhs; whnf) <;> rfl)) ?_)
                      refine TL.cons rfl (V1.t (V1.assign' (by (conv => lhs; whnf) <;> rfl)) ?_)
                      refine TL.nil ?_
                      exact ⟨_, _, _, trivial, (.cons rfl .nil), (.cons rfl (.cons rfl (.cons rfl (.cons rfl (.cons rfl (.cons rfl .nil)))))), (by repeat (first | exact Take.nil | apply Take.one (by repeat (first | exact Pick.here | apply Pick.there | apply Pick.far)) | apply Take.seg (by repeat (first | exact PickS.last | exact PickS.one | exact PickS.here | exact PickS.nil | apply PickS.there | apply PickS.far)) | exact Take.last (by repeat (first | exact PickS.last | exact PickS.one | exact PickS.here | exact PickS.nil | apply PickS.there | apply PickS.far)))), ⟨rfl, by simpa using whole_6 (n := []) (had_b hnd hj0 hb0) (had_b hnd hj1 hb1) (had_b hnd hja hba) (had_b hnd hjb hbb)⟩⟩
                    ·
                      refine TL.cons rfl (V1.t (V1.pick rfl (by (conv => lhs; whnf) <;> rfl)) ?_)
                      refine TL.cons rfl (V1.t (V1.move' (by (conv => lhs; whnf) <;> rfl)) ?_)
                      refine TL.cons rfl (V1.t (V1.move' (by (conv => lhs; whnf) <;> rfl)) ?_)
                      refine TL.cons rfl (V1.t (V1.move' (by (conv => lhs; whnf) <;> rfl)) ?_)
                      refine TL.cons rfl (V1.t (V1.indexAddrS ty_84 sz_3 rfl rfl (by decide) (by decide)) ?_)
                      refine TL.cons rfl (V1.t (V1.load1 (v := .int .i64 (j1 : Nat)) one_3 rfl (int_rd (k := 1) (by repeat (first | exact Find.here | assumption | apply Find.there | apply Find.far)) hjc1)) ?_)
                      refine TL.cons rfl (V1.t (V1.indexAddrS ty_105 sz_4 rfl rfl (by omega) (by have := (List.getElem?_eq_some_iff.1 hj1).1; omega)) ?_)
                      refine TL.cons rfl (V1.t (V1.load1 (v := .bool b1) one_4 rfl (bool_rd (by repeat (first | exact Find.here | assumption | apply Find.there | apply Find.far)) hb1)) ?_)
                      rcases Bool.eq_false_or_eq_true b1 with e_b1 | e_b1 <;> subst e_b1
                      ·
                        refine TL.cons rfl (V1.t (V1.move' (by (conv => lhs; whnf) <;> rfl)) ?_)
                        refine TL.cons rfl (V1.t (V1.move' (by (conv => lhs; whnf) <;> rfl)) ?_)
                        refine TL.cons rfl (V1.t (V1.move' (by (conv => lhs; whnf) <;> rfl)) ?_)
                        refine TL.cons rfl (V1.t (V1.indexAddrS ty_105 sz_4 rfl rfl (by omega) (by have := (List.getElem?_eq_some_iff.1 hja).1; omega)) ?_)
                        refine TL.cons rfl (V1.t (V1.load1 (v := .bool ba) one_4 rfl (bool_rd (by repeat (first | exact Find.here | assumption | apply Find.there | apply Find.far)) hba)) ?_)
                        rcases Bool.eq_false_or_eq_true ba with e_ba | e_ba <;> subst e_ba
                        ·
                          refine TL.cons rfl (V1.t (V1.pick rfl (by (conv => lhs; whnf) <;> rfl)) ?_)
                          refine TL.cons rfl (V1.t (V1.pick rfl (by (conv => lhs; whnf) <;> rfl)) ?_)
                          refine TL.cons rfl (V1.t (V1.assign' (by (conv => lhs; whnf) <;> rfl)) ?_)
                          refine TL.nil ?_
                          exact ⟨_, _, _, trivial, (.cons rfl .nil), (.cons rfl (.cons rfl (.cons rfl (.cons rfl (.cons rfl (.cons rfl .nil)))))), (by repeat (first | exact Take.nil | apply Take.one (by repeat (first | exact Pick.here | apply Pick.there | apply Pick.far)) | apply Take.seg (by repeat (first | exact PickS.last | exact PickS.one | exact PickS.here | exact PickS.nil | apply PickS.there | apply PickS.far)) | exact Take.last (by repeat (first | exact PickS.last | exact PickS.one | exact PickS.here | exact PickS.nil | apply PickS.there | apply PickS.far)))), ⟨rfl, by simpa using whole_6 (n := []) (had_b hnd hj0 hb0) (had_b hnd hj1 hb1) (had_b hnd hja hba) (had_b hnd hjb hbb)⟩⟩
                        ·
                          refine TL.cons rfl (V1.t (V1.pick rfl (by (conv => lhs; whnf) <;> rfl)) ?_)
                          refine TL.cons rfl (V1.t (V1.pick rfl (by (conv => lhs; whnf) <;> rfl)) ?_)
                          refine TL.cons rfl (V1.t (V1.assign' (by (conv => lhs; whnf) <;> rfl)) ?_)
                          refine TL.nil ?_
                          exact ⟨_, _, _, trivial, (.cons rfl .nil), (.cons rfl (.cons rfl (.cons rfl (.cons rfl (.cons rfl (.cons rfl .nil)))))), (by repeat (first | exact Take.nil | apply Take.one (by repeat (first | exact Pick.here | apply Pick.there | apply Pick.far)) | apply Take.seg (by repeat (first | exact PickS.last | exact PickS.one | exact PickS.here | exact PickS.nil | apply PickS.there | apply PickS.far)) | exact Take.last (by repeat (first | exact PickS.last | exact PickS.one | exact PickS.here | exact PickS.nil | apply PickS.there | apply PickS.far)))), ⟨rfl, by simpa using whole_6 (n := []) (had_b hnd hj0 hb0) (had_b hnd hj1 hb1) (had_b hnd hja hba) (had_b hnd hjb hbb)⟩⟩
                      ·
                        refine TL.cons rfl (V1.t (V1.move' (by (conv => lhs; whnf) <;> rfl)) ?_)
                        refine TL.no rfl ?_
                        refine TL.no rfl ?_
                        refine TL.no rfl ?_
                        refine TL.no rfl ?_
                        refine TL.cons rfl (V1.t (V1.pick rfl (by (conv => lhs; whnf) <;> rfl)) ?_)
                        refine TL.cons rfl (V1.t (V1.pick rfl (by (conv => lhs; whnf) <;> rfl)) ?_)
                        refine TL.cons rfl (V1.t (V1.assign' (by (conv => lhs; whnf) <;> rfl)) ?_)
                        refine TL.nil ?_
                        exact ⟨_, _, _, trivial, (.cons rfl .nil), (.cons rfl (.cons rfl (.cons rfl (.cons rfl (.cons rfl (.cons rfl .nil)))))), (by repeat (first | exact Take.nil | apply Take.one (by repeat (first | exact Pick.here | apply Pick.there | apply Pick.far)) | apply Take.seg (by repeat (first | exact PickS.last | exact PickS.one | exact PickS.here | exact PickS.nil | apply PickS.there | apply PickS.far)) | exact Take.last (by repeat (first | exact PickS.last | exact PickS.one | exact PickS.here | exact PickS.nil | apply PickS.there | apply PickS.far)))), ⟨rfl, by simpa using whole_6 (n := []) (had_b hnd hj0 hb0) (had_b hnd hj1 hb1) (had_b hnd hja hba) (had_b hnd hjb hbb)⟩⟩
                  ·
                    refine TL.cons rfl (V1.t (V1.move' (by (conv => lhs; whnf) <;> rfl)) ?_)
                    refine TL.no rfl ?_
                    refine TL.no rfl ?_
                    refine TL.no rfl ?_
                    refine TL.no rfl ?_
                    refine TL.cons rfl (V1.t (V1.pick rfl (by (conv => lhs; whnf) <;> rfl)) ?_)
                    refine TL.cons rfl (V1.t (V1.move' (by (conv => lhs; whnf) <;> rfl)) ?_)
                    refine TL.cons rfl (V1.t (V1.move' (by (conv => lhs; whnf) <;> rfl)) ?_)
                    refine TL.cons rfl (V1.t (V1.move' (by (conv => lhs; whnf) <;> rfl)) ?_)
                    refine TL.cons rfl (V1.t (V1.indexAddrS ty_84 sz_3 rfl rfl (by decide) (by decide)) ?_)
                    refine TL.cons rfl (V1.t (V1.load1 (v := .int .i64 (j1 : Nat)) one_3 rfl (int_rd (k := 1) (by repeat (first | exact Find.here | assumption | apply Find.there | apply Find.far)) hjc1)) ?_)
                    refine TL.cons rfl (V1.t (V1.indexAddrS ty_105 sz_4 rfl rfl (by omega) (by have := (List.getElem?_eq_some_iff.1 hj1).1; omega)) ?_)
                    refine TL.cons rfl (V1.t (V1.load1 (v := .bool b1) one_4 rfl (bool_rd (by repeat (first | exact Find.here | assumption | apply Find.there | apply Find.far)) hb1)) ?_)
                    rcases Bool.eq_false_or_eq_true b1 with e_b1 | e_b1 <;> subst e_b1
                    ·
                      refine TL.cons rfl (V1.t (V1.move' (by (conv => lhs; whnf) <;> rfl)) ?_)
                      refine TL.cons rfl (V1.t (V1.move' (by (conv => lhs; whnf) <;> rfl)) ?_)
                      refine TL.cons rfl (V1.t (V1.move' (by (conv => lhs; whnf) <;> rfl)) ?_)
                      refine TL.cons rfl (V1.t (V1.indexAddrS ty_105 sz_4 rfl rfl (by omega) (by have := (List.getElem?_eq_some_iff.1 hja).1; omega)) ?_)
                      refine TL.cons rfl (V1.t (V1.load1 (v := .bool ba) one_4 rfl (bool_rd (by repeat (first | exact Find.here | assumption | apply Find.there | apply Find.far)) hba)) ?_)
                      rcases Bool.eq_false_or_eq_true ba with e_ba | e_ba <;> subst e_ba
                      ·
                        refine TL.cons rfl (V1.t (V1.pick rfl (by (conv => lhs; whnf) <;> rfl)) ?_)
                        refine TL.cons rfl (V1.t (V1.pick rfl (by (conv => lhs; whnf) <;> rfl)) ?_)
                        refine TL.cons rfl (V1.t (V1.assign' (by (conv => lhs; whnf) <;> rfl)) ?_)
                        refine TL.nil ?_
                        exact ⟨_, _, _, trivial, (.cons rfl .nil), (.cons rfl (.cons rfl (.cons rfl (.cons rfl (.cons rfl (.cons rfl .nil)))))), (by repeat (first | exact Take.nil | apply Take.one (by repeat (first | exact Pick.here | apply Pick.there | apply Pick.far)) | apply Take.seg (by repeat (first | exact PickS.last | exact PickS.one | exact PickS.here | exact PickS.nil | apply PickS.there | apply PickS.far)) | exact Take.last (by repeat (first | exact PickS.last | exact PickS.one | exact PickS.here | exact PickS.nil | apply PickS.there | apply PickS.far)))), ⟨rfl, by simpa using whole_6 (n := []) (had_b hnd hj0 hb0) (had_b hnd hj1 hb1) (had_b hnd hja hba) (had_b hnd hjb hbb)⟩⟩
                      ·
                        refine TL.cons rfl (V1.t (V1.pick rfl (by (conv => lhs; whnf) <;> rfl)) ?_)
                        refine TL.cons rfl (V1.t (V1.pick rfl (by (conv => lhs; whnf) <;> rfl)) ?_)
                        refine TL.cons rfl (V1.t (V1.assign' (by (conv => lhs; whnf) <;> rfl)) ?_)
                        refine TL.nil ?_
                        exact ⟨_, _, _, trivial, (.cons rfl .nil), (.cons rfl (.cons rfl (.cons rfl (.cons rfl (.cons rfl (.cons rfl .nil)))))), (by repeat (first | exact Take.nil | apply Take.one (by repeat (first | exact Pick.here | apply Pick.there | apply Pick.far)) | apply Take.seg (by repeat (first | exact PickS.last | exact PickS.one | exact PickS.here | exact PickS.nil | apply PickS.there | apply PickS.far)) | exact Take.last (by repeat (first | exact PickS.last | exact PickS.one | exact PickS.here | exact PickS.nil | apply PickS.there | apply PickS.far)))), ⟨rfl, by simpa using whole_6 (n := []) (had_b hnd hj0 hb0) (had_b hnd hj1 hb1) (had_b hnd hja hba) (had_b hnd hjb hbb)⟩⟩
                    ·
                      refine TL.cons rfl (V1.t (V1.move' (by (conv => lhs; whnf) <;> rfl)) ?_)
                      refine TL.no rfl ?_
                      refine TL.no rfl ?_
                      refine TL.no rfl ?_
                      refine TL.no rfl ?_
                      refine TL.cons rfl (V1.t (V1.pick rfl (by (conv => lhs; whnf) <;> rfl)) ?_)
                      refine TL.cons rfl (V1.t (V1.pick rfl (by (conv => lhs; whnf) <;> rfl)) ?_)
                      refine TL.cons rfl (V1.t (V1.assign' (by (conv => lhs; whnf) <;> rfl)) ?_)
                      refine TL.nil ?_
                      exact ⟨_, _, _, trivial, (.cons rfl .nil), (.cons rfl (.cons rfl (.cons rfl (.cons rfl (.cons rfl (.cons rfl .nil)))))), (by repeat (first | exact Take.nil | apply Take.one (by repeat (first | exact Pick.here | apply Pick.there | apply Pick.far)) | apply Take.seg (by repeat (first | exact PickS.last | exact PickS.one | exact PickS.here | exact PickS.nil | apply PickS.there | apply PickS.far)) | exact Take.last (by repeat (first | exact PickS.last | exact PickS.one | exact PickS.here | exact PickS.nil | apply PickS.there | apply PickS.far)))), ⟨rfl, by simpa using whole_6 (n := []) (had_b hnd hj0 hb0) (had_b hnd hj1 hb1) (had_b hnd hja hba) (had_b hnd hjb hbb)⟩⟩
                ·
                  refine TL.nil ?_
                  refine T.cond_f rfl ?_
                  refine T.skip ?_
                  exact ⟨w, _, _, trivial, (.cons rfl .nil), (.cons rfl (.cons rfl (.cons rfl (.cons rfl (.cons rfl (.cons rfl .nil)))))), (by repeat (first | exact Take.nil | apply Take.one (by repeat (first | exact Pick.here | apply Pick.there | apply Pick.far)) | apply Take.seg (by repeat (first | exact PickS.last | exact PickS.one | exact PickS.here | exact PickS.nil | apply PickS.there | apply PickS.far)) | exact Take.last (by repeat (first | exact PickS.last | exact PickS.one | exact PickS.here | exact PickS.nil | apply PickS.there | apply PickS.far)))), ⟨rfl, whole_ne6 h25 hw⟩⟩
              ·
                rintro w2 e_ L ⟨rfl, hw2⟩
                obtain ⟨bi, hbi⟩ : ∃ b, hd[i]? = some b := ⟨_, List.getElem?_eq_getElem (by rw [hlen]; exact (List.getElem?_eq_some_iff.1 hx0).1)⟩
                have hbh := had_b hnd hx0 hbi
                refine T.seq ?_
                refine T.seq ?_
                refine T.region ?_
                refine TL.cons rfl (V1.t (V1.move' (by (conv => lhs; whnf) <;> rfl)) ?_)
                rcases Bool.eq_false_or_eq_true w2 with e_w | e_w <;> subst e_w
                ·
                  refine TL.cons rfl (V1.t (V1.move' (by (conv => lhs; whnf) <;> rfl)) ?_)
                  refine TL.cons rfl (V1.t (V1.move' (by (conv => lhs; whnf) <;> rfl)) ?_)
                  refine TL.cons rfl (V1.t (V1.move' (by (conv => lhs; whnf) <;> rfl)) ?_)
                  refine TL.cons rfl (V1.t (V1.indexAddrS ty_105 sz_4 rfl rfl (by omega) (by have := (List.getElem?_eq_some_iff.1 hx0).1; omega)) ?_)
                  refine TL.cons rfl (V1.t (V1.load1 (v := .bool bi) one_4 rfl (bool_rd (by repeat (first | exact Find.here | assumption | apply Find.there | apply Find.far)) hbi)) ?_)
                  rcases Bool.eq_false_or_eq_true bi with e_bi | e_bi <;> subst e_bi
                  ·
                    refine TL.cons rfl (V1.t (V1.not rfl rfl) ?_)
                    refine TL.cons rfl (V1.t (V1.pick rfl (by (conv => lhs; whnf) <;> rfl)) ?_)
                    refine TL.nil ?_
                    refine T.cond_f rfl ?_
                    refine T.skip ?_
                    refine T.seq ?_
                    refine T.seq ?_
                    refine T.region ?_
                    refine TL.cons rfl (V1.t (V1.move' (by (conv => lhs; whnf) <;> rfl)) ?_)
                    refine TL.cons rfl (V1.t (V1.move' (by (conv => lhs; whnf) <;> rfl)) ?_)
                    refine TL.cons rfl (V1.t (V1.indexAddrS ty_105 sz_4 rfl rfl (by omega) (by have := (List.getElem?_eq_some_iff.1 hx0).1; omega)) ?_)
                    refine TL.cons rfl (V1.t (V1.load1 (v := .bool true) one_4 rfl (bool_rd (by repeat (first | exact Find.here | assumption | apply Find.there | apply Find.far)) hbi)) ?_)
                    have hrx_ : RndX (fun y => y ∈ kn) al hd0 i (.mk kx nx asx) 0 more hd := hrd.open0 (hbh.1 rfl)
                    refine TL.cons rfl (V1.t (V1.not rfl rfl) ?_)
                    refine TL.nil ?_
                    refine T.cond_f rfl ?_
                    refine T.skip ?_
                    refine T.seq ?_
                    refine T.live (l := [(6, _), (7, _), (9, _), (10, _), (11, _), (12, _)]) (.cons (by (conv => lhs; whnf) <;> rfl) (.cons (by (conv => lhs; whnf) <;> rfl) (.cons (by (conv => lhs; whnf) <;> rfl) (.cons (by (conv => lhs; whnf) <;> rfl) (.cons (by (conv => lhs; whnf) <;> rfl) (.cons (by (conv => lhs; whnf) <;> rfl) .nil)))))) (fun e_ => ?_)
                    refine T.region ?_
                    refine TL.cons rfl (V1.t (V1.assign' (by (conv => lhs; whnf) <;> rfl)) ?_)
                    refine TL.nil ?_
                    refine T.block ?_
                    refine T.loopL (σ := Nat × Bool × List Bool) (l0 := [(6, _), (7, _), (10, _), (11, _), (12, _)]) (fun x => [(18, .int .i64 (x.1 : Nat)), (9, .bool x.2.1)]) (fun x L => L = ⟨b12, 0, plcC (js) asx.length, asx.length⟩ :: ⟨b11, 0, [.int .i64 kx, .string (bstr nx), .slice ax asx.length cx], 3⟩ :: ⟨b7, 0, (x.2.2).map Value.bool, al.length⟩ :: (Z ++ (⟨b3, 0, [.int .i64 kt, .string (bstr nt), .slice at_ ast.length ct_], 3⟩ :: G)) ∧ x.1 ≤ asx.length ∧ RndX (fun y => y ∈ kn) al hd0 i (.mk kx nx asx) x.1 x.2.1 x.2.2) (fun x => asx.length - x.1) (0, more, hd) (.cons rfl (.cons rfl .nil)) (.cons (by (conv => lhs; whnf) <;> rfl) (.cons (by (conv => lhs; whnf) <;> rfl) (.cons (by (conv => lhs; whnf) <;> rfl) (.cons (by (conv => lhs; whnf) <;> rfl) (.cons (by (conv => lhs; whnf) <;> rfl) .nil))))) (by repeat (first | exact Take.nil | apply Take.one (by repeat (first | exact Pick.here | apply Pick.there | apply Pick.far)) | apply Take.seg (by repeat (first | exact PickS.last | exact PickS.one | exact PickS.here | exact PickS.nil | apply PickS.there | apply PickS.far)) | exact Take.last (by repeat (first | exact PickS.last | exact PickS.one | exact PickS.here | exact PickS.nil | apply PickS.there | apply PickS.far)))) (⟨rfl, Nat.zero_le _, hrx_⟩) ?_
                    rintro ⟨k, more2, hd2⟩ e_ L ⟨rfl, hk, hrx5⟩
                    simp only at hk hrx5
                    have hlen2 := hrx5.r.base.len
                    refine T.seq ?_
                    refine T.seq ?_
                    refine T.region ?_
                    refine TL.cons rfl (V1.t (V1.move' (by (conv => lhs; whnf) <;> rfl)) ?_)
                    refine TL.cons rfl (V1.t (V1.move' (by (conv => lhs; whnf) <;> rfl)) ?_)
                    refine TL.cons rfl (V1.t (V1.lenSl ty_84 rfl) ?_)
                    refine TL.cons rfl (T1.ltI_split rfl rfl (fun h34 => ?_) (fun h34 => ?_))
                    ·
                      have hkl : k < asx.length := by first | omega | (simp at h34; omega)
                      obtain ⟨j, y, hjc, hy0, hj⟩ := plc_get (m := asx.length) hpl (i := k) (by omega)
                      obtain ⟨j0, y0, hjc0, hy00, hj0⟩ := plc_get (m := asx.length) hpl (i := 0) (by omega)
                      obtain ⟨bk, hbk⟩ : ∃ b, hd2[j]? = some b := ⟨_, List.getElem?_eq_getElem (by rw [hlen2]; exact (List.getElem?_eq_some_iff.1 hj).1)⟩
                      obtain ⟨bz, hbz⟩ : ∃ b, hd2[j0]? = some b := ⟨_, List.getElem?_eq_getElem (by rw [hlen2]; exact (List.getElem?_eq_some_iff.1 hj0).1)⟩
                      have hbkh := had_b hnd hj hbk
                      have hbzh := had_b hnd hj0 hbz
                      refine TL.nil ?_
                      refine T.cond_t rfl ?_
                      refine T.skip ?_
                      refine T.seq ?_
                      refine T.block ?_
                      refine T.cut (σ := Bool) (l0 := [(6, _), (7, _), (9, _), (10, _), (11, _), (12, _), (18, _)]) (fun x => [(19, .bool x)]) (fun x L => L = ⟨b12, 0, plcC (js) asx.length, asx.length⟩ :: ⟨b11, 0, [.int .i64 kx, .string (bstr nx), .slice ax asx.length cx], 3⟩ :: ⟨b7, 0, (hd2).map Value.bool, al.length⟩ :: (Z ++ (⟨b3, 0, [.int .i64 kt, .string (bstr nt), .slice at_ ast.length ct_], 3⟩ :: G)) ∧ (x = true ↔ OpenK (Had al hd2) (.mk kx nx asx) k)) (.cons (by (conv => lhs; whnf) <;> rfl) (.cons (by (conv => lhs; whnf) <;> rfl) (.cons (by (conv => lhs; whnf) <;> rfl) (.cons (by (conv => lhs; whnf) <;> rfl) (.cons (by (conv => lhs; whnf) <;> rfl) (.cons (by (conv => lhs; whnf) <;> rfl) (.cons (by (conv => lhs; whnf) <;> rfl) .nil))))))) ?_ ?_
                      ·
                        refine T.region ?_
                        refine TL.cons rfl (V1.t (V1.fieldAddr fl_49_0 rfl) ?_)
                        refine TL.cons rfl (V1.t (V1.load1 one_3 rfl (.own (by repeat (first | exact Find.here | assumption | apply Find.there | apply Find.far)) (by rfl))) ?_)
                        refine TL.cons rfl (T1.eqI_split rfl rfl (fun g2 => ?_) (fun g2 => ?_))
                        ·
                          refine TL.cons rfl (V1.t (V1.move' (by (conv => lhs; whnf) <;> rfl)) ?_)
                          refine TL.no rfl ?_
                          refine TL.no rfl ?_
                          refine TL.no rfl ?_
                          refine TL.no rfl ?_
                          refine TL.no rfl ?_
                          refine TL.no rfl ?_
                          refine TL.no rfl ?_
                          refine TL.cons rfl (V1.t (V1.pick rfl (by (conv => lhs; whnf) <;> rfl)) ?_)
                          refine TL.cons rfl (V1.t (V1.move' (by (conv => lhs; whnf) <;> rfl)) ?_)
                          refine TL.no rfl ?_
                          refine TL.no rfl ?_
                          refine TL.no rfl ?_
                          refine TL.no rfl ?_
                          refine TL.no rfl ?_
                          refine TL.no rfl ?_
                          refine TL.no rfl ?_
                          refine TL.no rfl ?_
                          refine TL.no rfl ?_
                          refine TL.no rfl ?_
                          refine TL.no rfl ?_
                          refine TL.no rfl ?_
                          refine TL.no rfl ?_
                          refine TL.no rfl ?_
                          refine TL.no rfl ?_
                          refine TL.cons rfl (V1.t (V1.pick rfl (by (conv => lhs; whnf) <;> rfl)) ?_)
                          refine TL.cons rfl (V1.t (V1.assign' (by (conv => lhs; whnf) <;> rfl)) ?_)
                          refine TL.nil ?_
                          exact ⟨_, _, _, trivial, (.cons rfl .nil), (.cons rfl (.cons rfl (.cons rfl (.cons rfl (.cons rfl (.cons rfl (.cons rfl .nil))))))), (by repeat (first | exact Take.nil | apply Take.one (by repeat (first | exact Pick.here | apply Pick.there | apply Pick.far)) | apply Take.seg (by repeat (first | exact PickS.last | exact PickS.one | exact PickS.here | exact PickS.nil | apply PickS.there | apply PickS.far)) | exact Take.last (by repeat (first | exact PickS.last | exact PickS.one | exact PickS.here | exact PickS.nil | apply PickS.there | apply PickS.far)))), ⟨rfl, by unfold OpenK; simp_all [Tm.kind, Tm.args]⟩⟩
                        ·
                          refine TL.cons rfl (V1.t (V1.move' (by (conv => lhs; whnf) <;> rfl)) ?_)
                          refine TL.cons rfl (V1.t (V1.fieldAddr fl_49_0 rfl) ?_)
                          refine TL.cons rfl (V1.t (V1.load1 one_3 rfl (.own (by repeat (first | exact Find.here | assumption | apply Find.there | apply Find.far)) (by rfl))) ?_)
                          refine TL.cons rfl (T1.eqI_split rfl rfl (fun g8 => ?_) (fun g8 => ?_))
                          ·
                            refine TL.cons rfl (V1.t (V1.move' (by (conv => lhs; whnf) <;> rfl)) ?_)
                            refine TL.cons rfl (V1.t (V1.move' (by (conv => lhs; whnf) <;> rfl)) ?_)
                            refine TL.cons rfl (T1.eqI_split rfl rfl (fun gk => ?_) (fun gk => ?_))
                            ·
                              have gkn : k = 1 := by omega
                              refine TL.cons rfl (V1.t (V1.pick rfl (by (conv => lhs; whnf) <;> rfl)) ?_)
                              refine TL.cons rfl (V1.t (V1.pick rfl (by (conv => lhs; whnf) <;> rfl)) ?_)
                              refine TL.cons rfl (V1.t (V1.move' (by (conv => lhs; whnf) <;> rfl)) ?_)
                              refine TL.no rfl ?_
                              refine TL.no rfl ?_
                              refine TL.no rfl ?_
                              refine TL.no rfl ?_
                              refine TL.no rfl ?_
                              refine TL.no rfl ?_
                              refine TL.no rfl ?_
                              refine TL.no rfl ?_
                              refine TL.no rfl ?_
                              refine TL.no rfl ?_
                              refine TL.no rfl ?_
                              refine TL.no rfl ?_
                              refine TL.no rfl ?_
                              refine TL.no rfl ?_
                              refine TL.no rfl ?_
                              refine TL.cons rfl (V1.t (V1.pick rfl (by (conv => lhs; whnf) <;> rfl)) ?_)
                              refine TL.cons rfl (V1.t (V1.assign' (by (conv => lhs; whnf) <;> rfl)) ?_)
                              refine TL.nil ?_
                              exact ⟨_, _, _, trivial, (.cons rfl .nil), (.cons rfl (.cons rfl (.cons rfl (.cons rfl (.cons rfl (.cons rfl (.cons rfl .nil))))))), (by repeat (first | exact Take.nil | apply Take.one (by repeat (first | exact Pick.here | apply Pick.there | apply Pick.far)) | apply Take.seg (by repeat (first | exact PickS.last | exact PickS.one | exact PickS.here | exact PickS.nil | apply PickS.there | apply PickS.far)) | exact Take.last (by repeat (first | exact PickS.last | exact PickS.one | exact PickS.here | exact PickS.nil | apply PickS.there | apply PickS.far)))), ⟨rfl, by unfold OpenK; simp_all [Tm.kind, Tm.args]⟩⟩
                            ·
                              have gkn : k ≠ 1 := by omega
                              refine TL.cons rfl (V1.t (V1.pick rfl (by (conv => lhs; whnf) <;> rfl)) ?_)
                              refine TL.cons rfl (V1.t (V1.pick rfl (by (conv => lhs; whnf) <;> rfl)) ?_)
                              refine TL.cons rfl (V1.t (V1.move' (by (conv => lhs; whnf) <;> rfl)) ?_)
                              refine TL.cons rfl (V1.t (V1.fieldAddr fl_49_0 rfl) ?_)
                              refine TL.cons rfl (V1.t (V1.load1 one_3 rfl (.own (by repeat (first | exact Find.here | assumption | apply Find.there | apply Find.far)) (by rfl))) ?_)
                              refine TL.cons rfl (T1.eqI_split rfl rfl (fun g3 => ?_) (fun g3 => ?_))
                              ·
                                refine TL.cons rfl (V1.t (V1.move' (by (conv => lhs; whnf) <;> rfl)) ?_)
                                refine TL.cons rfl (V1.t (V1.move' (by (conv => lhs; whnf) <;> rfl)) ?_)
                                refine TL.cons rfl (T1.eqI_split rfl rfl (fun gk2 => ?_) (fun gk2 => ?_))
                                ·
                                  have gkn : k = 1 := by omega
                                  refine TL.cons rfl (V1.t (V1.pick rfl (by (conv => lhs; whnf) <;> rfl)) ?_)
                                  refine TL.cons rfl (V1.t (V1.move' (by (conv => lhs; whnf) <;> rfl)) ?_)
                                  refine TL.cons rfl (V1.t (V1.move' (by (conv => lhs; whnf) <;> rfl)) ?_)
                                  refine TL.cons rfl (V1.t (V1.move' (by (conv => lhs; whnf) <;> rfl)) ?_)
                                  refine TL.cons rfl (V1.t (V1.indexAddrS ty_84 sz_3 rfl rfl (by omega) (by omega)) ?_)
                                  refine TL.cons rfl (V1.t (V1.load1 (v := .int .i64 (j0 : Nat)) one_3 rfl (int_rd (k := 0) (by repeat (first | exact Find.here | assumption | apply Find.there | apply Find.far)) hjc0)) ?_)
                                  refine TL.cons rfl (V1.t (V1.indexAddrS ty_105 sz_4 rfl rfl (by omega) (by have := (List.getElem?_eq_some_iff.1 hj0).1; omega)) ?_)
                                  refine TL.cons rfl (V1.t (V1.load1 (v := .bool bz) one_4 rfl (bool_rd (by repeat (first | exact Find.here | assumption | apply Find.there | apply Find.far)) hbz)) ?_)
                                  rcases Bool.eq_false_or_eq_true bz with e_bz | e_bz <;> subst e_bz
                                  ·
                                    refine TL.cons rfl (V1.t (V1.pick rfl (by (conv => lhs; whnf) <;> rfl)) ?_)
                                    refine TL.cons rfl (V1.t (V1.pick rfl (by (conv => lhs; whnf) <;> rfl)) ?_)
                                    refine TL.cons rfl (V1.t (V1.assign' (by (conv => lhs; whnf) <;> rfl)) ?_)
                                    refine TL.nil ?_
                                    exact ⟨_, _, _, trivial, (.cons rfl .nil), (.cons rfl (.cons rfl (.cons rfl (.cons rfl (.cons rfl (.cons rfl (.cons rfl .nil))))))), (by repeat (first | exact Take.nil | apply Take.one (by repeat (first | exact Pick.here | apply Pick.there | apply Pick.far)) | apply Take.seg (by repeat (first | exact PickS.last | exact PickS.one | exact PickS.here | exact PickS.nil | apply PickS.there | apply PickS.far)) | exact Take.last (by repeat (first | exact PickS.last | exact PickS.one | exact PickS.here | exact PickS.nil | apply PickS.there | apply PickS.far)))), ⟨rfl, by unfold OpenK; simp_all [Tm.kind, Tm.args]⟩⟩
                                  ·
                                    refine TL.cons rfl (V1.t (V1.pick rfl (by (conv => lhs; whnf) <;> rfl)) ?_)
                                    refine TL.cons rfl (V1.t (V1.pick rfl (by (conv => lhs; whnf) <;> rfl)) ?_)
                                    refine TL.cons rfl (V1.t (V1.assign' (by (conv => lhs; whnf) <;> rfl)) ?_)
                                    refine TL.nil ?_
                                    exact ⟨_, _, _, trivial, (.cons rfl .nil), (.cons rfl (.cons rfl (.cons rfl (.cons rfl (.cons rfl (.cons rfl (.cons rfl .nil))))))), (by repeat (first | exact Take.nil | apply Take.one (by repeat (first | exact Pick.here | apply Pick.there | apply Pick.far)) | apply Take.seg (by repeat (first | exact PickS.last | exact PickS.one | exact PickS.here | exact PickS.nil | apply PickS.there | apply PickS.far)) | exact Take.last (by repeat (first | exact PickS.last | exact PickS.one | exact PickS.here | exact PickS.nil | apply PickS.there | apply PickS.far)))), ⟨rfl, by unfold OpenK; simp_all [Tm.kind, Tm.args]⟩⟩
                                ·
                                  have gkn : k ≠ 1 := by omega
                                  refine TL.cons rfl (V1.t (V1.pick rfl (by (conv => lhs; whnf) <;> rfl)) ?_)
                                  refine TL.cons rfl (V1.t (V1.move' (by (conv => lhs; whnf) <;> rfl)) ?_)
                                  refine TL.no rfl ?_
                                  refine TL.no rfl ?_
                                  refine TL.no rfl ?_
                                  refine TL.no rfl ?_
                                  refine TL.no rfl ?_
                                  refine TL.no rfl ?_
                                  refine TL.cons rfl (V1.t (V1.pick rfl (by (conv => lhs; whnf) <;> rfl)) ?_)
                                  refine TL.cons rfl (V1.t (V1.pick rfl (by (conv => lhs; whnf) <;> rfl)) ?_)
                                  refine TL.cons rfl (V1.t (V1.assign' (by (conv => lhs; whnf) <;> rfl)) ?_)
                                  refine TL.nil ?_
                                  exact ⟨_, _, _, trivial, (.cons rfl .nil), (.cons rfl (.cons rfl (.cons rfl (.cons rfl (.cons rfl (.cons rfl (.cons rfl .nil))))))), (by repeat (first | exact Take.nil | apply Take.one (by repeat (first | exact Pick.here | apply Pick.there | apply Pick.far)) | apply Take.seg (by repeat (first | exact PickS.last | exact PickS.one | exact PickS.here | exact PickS.nil | apply PickS.there | apply PickS.far)) | exact Take.last (by repeat (first | exact PickS.last | exact PickS.one | exact PickS.here | exact PickS.nil | apply PickS.there | apply PickS.far)))), ⟨rfl, by unfold OpenK; simp_all [Tm.kind, Tm.args]⟩⟩
                              ·
                                refine TL.cons rfl (V1.t (V1.move' (by (conv => lhs; whnf) <;> rfl)) ?_)
                                refine TL.no rfl ?_
                                refine TL.no rfl ?_
                                refine TL.cons rfl (V1.t (V1.pick rfl (by (conv => lhs; whnf) <;> rfl)) ?_)
                                refine TL.cons rfl (V1.t (V1.move' (by (conv => lhs; whnf) <;> rfl)) ?_)
                                refine TL.no rfl ?_
                                refine TL.no rfl ?_
                                refine TL.no rfl ?_
                                refine TL.no rfl ?_
                                refine TL.no rfl ?_
                                refine TL.no rfl ?_
                                refine TL.cons rfl (V1.t (V1.pick rfl (by (conv => lhs; whnf) <;> rfl)) ?_)
                                refine TL.cons rfl (V1.t (V1.pick rfl (by (conv => lhs; whnf) <;> rfl)) ?_)
                                refine TL.cons rfl (V1.t (V1.assign' (by (conv => lhs; whnf) <;> rfl)) ?_)
                                refine TL.nil ?_
                                exact ⟨_, _, _, trivial, (.cons rfl .nil), (.cons rfl (.cons rfl (.cons rfl (.cons rfl (.cons rfl (.cons rfl (.cons rfl .nil))))))), (by repeat (first | exact Take.nil | apply Take.one (by repeat (first | exact Pick.here | apply Pick.there | apply Pick.far)) | apply Take.seg (by repeat (first | exact PickS.last | exact PickS.one | exact PickS.here | exact PickS.nil | apply PickS.there | apply PickS.far)) | exact Take.last (by repeat (first | exact PickS.last | exact PickS.one | exact PickS.here | exact PickS.nil | apply PickS.there | apply PickS.far)))), ⟨rfl, by unfold OpenK; simp_all [Tm.kind, Tm.args]⟩⟩
                          ·
                            refine TL.cons rfl (V1.t (V1.move' (by (conv => lhs; whnf) <;> rfl)) ?_)
                            refine TL.no rfl ?_
                            refine TL.no rfl ?_
                            refine TL.cons rfl (V1.t (V1.pick rfl (by (conv => lhs; whnf) <;> rfl)) ?_)
                            refine TL.cons rfl (V1.t (V1.pick rfl (by (conv => lhs; whnf) <;> rfl)) ?_)
                            refine TL.cons rfl (V1.t (V1.move' (by (conv => lhs; whnf) <;> rfl)) ?_)
                            refine TL.cons rfl (V1.t (V1.fieldAddr fl_49_0 rfl) ?_)
                            refine TL.cons rfl (V1.t (V1.load1 one_3 rfl (.own (by repeat (first | exact Find.here | assumption | apply Find.there | apply Find.far)) (by rfl))) ?_)
                            refine TL.cons rfl (T1.eqI_split rfl rfl (fun g3 => ?_) (fun g3 => ?_))
                            ·
                              refine TL.cons rfl (V1.t (V1.move' (by (conv => lhs; whnf) <;> rfl)) ?_)
                              refine TL.cons rfl (V1.t (V1.move' (by (conv => lhs; whnf) <;> rfl)) ?_)
                              refine TL.cons rfl (T1.eqI_split rfl rfl (fun gk2 => ?_) (fun gk2 => ?_))
                              ·
                                have gkn : k = 1 := by omega
                                refine TL.cons rfl (V1.t (V1.pick rfl (by (conv => lhs; whnf) <;> rfl)) ?_)
                                refine TL.cons rfl (V1.t (V1.move' (by (conv => lhs; whnf) <;> rfl)) ?_)
                                refine TL.cons rfl (V1.t (V1.move' (by (conv => lhs; whnf) <;> rfl)) ?_)
                                refine TL.cons rfl (V1.t (V1.move' (by (conv => lhs; whnf) <;> rfl)) ?_)
                                refine TL.cons rfl (V1.t (V1.indexAddrS ty_84 sz_3 rfl rfl (by omega) (by omega)) ?_)
                                refine TL.cons rfl (V1.t (V1.load1 (v := .int .i64 (j0 : Nat)) one_3 rfl (int_rd (k := 0) (by repeat (first | exact Find.here | assumption | apply Find.there | apply Find.far)) hjc0)) ?_)
                                refine TL.cons rfl (V1.t (V1.indexAddrS ty_105 sz_4 rfl rfl (by omega) (by have := (List.getElem?_eq_some_iff.1 hj0).1; omega)) ?_)
                                refine TL.cons rfl (V1.t (V1.load1 (v := .bool bz) one_4 rfl (bool_rd (by repeat (first | exact Find.here | assumption | apply Find.there | apply Find.far)) hbz)) ?_)
                                rcases Bool.eq_false_or_eq_true bz with e_bz | e_bz <;> subst e_bz
                                ·
                                  refine TL.cons rfl (V1.t (V1.pick rfl (by (conv => lhs; whnf) <;> rfl)) ?_)
                                  refine TL.cons rfl (V1.t (V1.pick rfl (by (conv => lhs; whnf) <;> rfl)) ?_)
                                  refine TL.cons rfl (V1.t (V1.assign' (by (conv => lhs; whnf) <;> rfl)) ?_)
                                  refine TL.nil ?_
                                  exact ⟨_, _, _, trivial, (.cons rfl .nil), (.cons rfl (.cons rfl (.cons rfl (.cons rfl (.cons rfl (.cons rfl (.cons rfl .nil))))))), (by repeat (first | exact Take.nil | apply Take.one (by repeat (first | exact Pick.here | apply Pick.there | apply Pick.far)) | apply Take.seg (by repeat (first | exact PickS.last | exact PickS.one | exact PickS.here | exact PickS.nil | apply PickS.there | apply PickS.far)) | exact Take.last (by repeat (first | exact PickS.last | exact PickS.one | exact PickS.here | exact PickS.nil | apply PickS.there | apply PickS.far)))), ⟨rfl, by unfold OpenK; simp_all [Tm.kind, Tm.args]⟩⟩
                                ·
                                  refine TL.cons rfl (V1.t (V1.pick rfl (by (conv => lhs; whnf) <;> rfl)) ?_)
                                  refine TL.cons rfl (V1.t (V1.pick rfl (by (conv => lhs; whnf) <;> rfl)) ?_)
                                  refine TL.cons rfl (V1.t (V1.assign' (by (conv => lhs; whnf) <;> rfl)) ?_)
                                  refine TL.nil ?_
                                  exact ⟨_, _, _, trivial, (.cons rfl .nil), (.cons rfl (.cons rfl (.cons rfl (.cons rfl (.cons rfl (.cons rfl (.cons rfl .nil))))))), (by repeat (first | exact Take.nil | apply Take.one (by repeat (first | exact Pick.here | apply Pick.there | apply Pick.far)) | apply Take.seg (by repeat (first | exact PickS.last | exact PickS.one | exact PickS.here | exact PickS.nil | apply PickS.there | apply PickS.far)) | exact Take.last (by repeat (first | exact PickS.last | exact PickS.one | exact PickS.here | exact PickS.nil | apply PickS.there | apply PickS.far)))), ⟨rfl, by unfold OpenK; simp_all [Tm.kind, Tm.args]⟩⟩
                              ·
                                have gkn : k ≠ 1 := by omega
                                refine TL.cons rfl (V1.t (V1.pick rfl (by (conv => lhs; whnf) <;> rfl)) ?_)
                                refine TL.cons rfl (V1.t (V1.move' (by (conv => lhs; whnf) <;> rfl)) ?_)
                                refine TL.no rfl ?_
                                refine TL.no rfl ?_
                                refine TL.no rfl ?_
                                refine TL.no rfl ?_
                                refine TL.no rfl ?_
                                refine TL.no rfl ?_
                                refine TL.cons rfl (V1.t (V1.pick rfl (by (conv => lhs; whnf) <;> rfl)) ?_)
                                refine TL.cons rfl (V1.t (V1.pick rfl (by (conv => lhs; whnf) <;> rfl)) ?_)
                                refine TL.cons rfl (V1.t (V1.assign' (by (conv => lhs; whnf) <;> rfl)) ?_)
                                refine TL.nil ?_
                                exact ⟨_, _, _, trivial, (.cons rfl .nil), (.cons rfl (.cons rfl (.cons rfl (.cons rfl (.cons rfl (.cons rfl (.cons rfl .nil))))))), (by repeat (first | exact Take.nil | apply Take.one (by repeat (first | exact Pick.here | apply Pick.there | apply Pick.far)) | apply Take.seg (by repeat (first | exact PickS.last | exact PickS.one | exact PickS.here | exact PickS.nil | apply PickS.there | apply PickS.far)) | exact Take.last (by repeat (first | exact PickS.last | exact PickS.one | exact PickS.here | exact PickS.nil | apply PickS.there | apply PickS.far)))), ⟨rfl, by unfold OpenK; simp_all [Tm.kind, Tm.args]⟩⟩
                            ·
                              refine TL.cons rfl (V1.t (V1.move' (by (conv => lhs; whnf) <;> rfl)) ?_)
                              refine TL.no rfl ?_
                              refine TL.no rfl ?_
                              refine TL.cons rfl (V1.t (V1.pick rfl (by (conv => lhs; whnf) <;> rfl)) ?_)
                              refine TL.cons rfl (V1.t (V1.move' (by (conv => lhs; whnf) <;> rfl)) ?_)
                              refine TL.no rfl ?_
                              refine TL.no rfl ?_
                              refine TL.no rfl ?_
                              refine TL.no rfl ?_
                              refine TL.no rfl ?_
                              refine TL.no rfl ?_
                              refine TL.cons rfl (V1.t (V1.pick rfl (by (conv => lhs; whnf) <;> rfl)) ?_)
                              refine TL.cons rfl (V1.t (V1.pick rfl (by (conv => lhs; whnf) <;> rfl)) ?_)
                              refine TL.cons rfl (V1.t (V1.assign' (by (conv => lhs; whnf) <;> rfl)) ?_)
                              refine TL.nil ?_
                              exact ⟨_, _, _, trivial, (.cons rfl .nil), (.cons rfl (.cons rfl (.cons rfl (.cons rfl (.cons rfl (.cons rfl (.cons rfl .nil))))))), (by repeat (first | exact Take.nil | apply Take.one (by repeat (first | exact Pick.here | apply Pick.there | apply Pick.far)) | apply Take.seg (by repeat (first | exact PickS.last | exact PickS.one | exact PickS.here | exact PickS.nil | apply PickS.there | apply PickS.far)) | exact Take.last (by repeat (first | exact PickS.last | exact PickS.one | exact PickS.here | exact PickS.nil | apply PickS.there | apply PickS.far)))), ⟨rfl, by unfold OpenK; simp_all [Tm.kind, Tm.args]⟩⟩
                      ·
                        rintro o2 e_ L ⟨rfl, ho2⟩
                        refine T.seq ?_
                        refine T.region ?_
                        refine TL.cons rfl (V1.t (V1.move' (by (conv => lhs; whnf) <;> rfl)) ?_)
                        rcases Bool.eq_false_or_eq_true o2 with e_o | e_o <;> subst e_o
                        ·
                          refine TL.cons rfl (V1.t (V1.move' (by (conv => lhs; whnf) <;> rfl)) ?_)
                          refine TL.cons rfl (V1.t (V1.move' (by (conv => lhs; whnf) <;> rfl)) ?_)
                          refine TL.cons rfl (V1.t (V1.move' (by (conv => lhs; whnf) <;> rfl)) ?_)
                          refine TL.cons rfl (V1.t (V1.move' (by (conv => lhs; whnf) <;> rfl)) ?_)
                          refine TL.cons rfl (V1.t (V1.indexAddrS ty_84 sz_3 rfl rfl (by omega) (by omega)) ?_)
                          refine TL.cons rfl (V1.t (V1.load1 (v := .int .i64 (j : Nat)) one_3 rfl (int_rd (by repeat (first | exact Find.here | assumption | apply Find.there | apply Find.far)) hjc)) ?_)
                          refine TL.cons rfl (V1.t (V1.indexAddrS ty_105 sz_4 rfl rfl (by omega) (by have := (List.getElem?_eq_some_iff.1 hj).1; omega)) ?_)
                          refine TL.cons rfl (V1.t (V1.load1 (v := .bool bk) one_4 rfl (bool_rd (by repeat (first | exact Find.here | assumption | apply Find.there | apply Find.far)) hbk)) ?_)
                          rcases Bool.eq_false_or_eq_true bk with e_bk | e_bk <;> subst e_bk
                          ·
                            refine TL.cons rfl (V1.t (V1.not rfl rfl) ?_)
                            refine TL.cons rfl (V1.t (V1.pick rfl (by (conv => lhs; whnf) <;> rfl)) ?_)
                            refine TL.nil ?_
                            refine T.cond_f rfl ?_
                            refine T.skip ?_
                            refine T.live (l := [(6, _), (7, _), (9, _), (10, _), (11, _), (12, _), (18, _)]) (.cons (by (conv => lhs; whnf) <;> rfl) (.cons (by (conv => lhs; whnf) <;> rfl) (.cons (by (conv => lhs; whnf) <;> rfl) (.cons (by (conv => lhs; whnf) <;> rfl) (.cons (by (conv => lhs; whnf) <;> rfl) (.cons (by (conv => lhs; whnf) <;> rfl) (.cons (by (conv => lhs; whnf) <;> rfl) .nil))))))) (fun e_ => ?_)
                            refine T.region ?_
                            refine TL.cons rfl (V1.t (V1.move' (by (conv => lhs; whnf) <;> rfl)) ?_)
                            refine TL.cons rfl (V1.t (V1.add (c := ((k + 1 : Nat) : Int)) rfl rfl (by rw [wrap_i64 _ (by omega) (by omega)]; omega)) ?_)
                            refine TL.cons rfl (V1.t (V1.assign' (by (conv => lhs; whnf) <;> rfl)) ?_)
                            refine TL.nil ?_
                            exact ⟨(k + 1, more2, hd2), ⟨b12, 0, plcC (js) asx.length, asx.length⟩ :: ⟨b11, 0, [.int .i64 kx, .string (bstr nx), .slice ax asx.length cx], 3⟩ :: ⟨b7, 0, (hd2).map Value.bool, al.length⟩ :: (Z ++ (⟨b3, 0, [.int .i64 kt, .string (bstr nt), .slice at_ ast.length ct_], 3⟩ :: G)), _, (by simp only; omega), (.cons rfl (.cons rfl .nil)), (.cons rfl (.cons rfl (.cons rfl (.cons rfl (.cons rfl .nil))))), (by repeat (first | exact Take.nil | apply Take.one (by repeat (first | exact Pick.here | apply Pick.there | apply Pick.far)) | apply Take.seg (by repeat (first | exact PickS.last | exact PickS.one | exact PickS.here | exact PickS.nil | apply PickS.there | apply PickS.far)) | exact Take.last (by repeat (first | exact PickS.last | exact PickS.one | exact PickS.here | exact PickS.nil | apply PickS.there | apply PickS.far)))), ⟨rfl, by simp only; omega, hrx5.skip (fun a ha ho => (by have e := Option.some.inj ((show asx[k]? = some a from ha).symm.trans hy0); subst e; exact hbkh.1 rfl))⟩⟩
                          ·
                            refine TL.cons rfl (V1.t (V1.not rfl rfl) ?_)
                            refine TL.cons rfl (V1.t (V1.pick rfl (by (conv => lhs; whnf) <;> rfl)) ?_)
                            refine TL.nil ?_
                            refine T.cond_t rfl ?_
                            refine T.seq ?_
                            refine T.live (l := [(6, _), (7, _), (10, _), (11, _), (12, _), (18, _)]) (.cons (by (conv => lhs; whnf) <;> rfl) (.cons (by (conv => lhs; whnf) <;> rfl) (.cons (by (conv => lhs; whnf) <;> rfl) (.cons (by (conv => lhs; whnf) <;> rfl) (.cons (by (conv => lhs; whnf) <;> rfl) (.cons (by (conv => lhs; whnf) <;> rfl) .nil)))))) (fun e_ => ?_)
                            refine T.region ?_
                            refine TL.cons rfl (V1.t (V1.move' (by (conv => lhs; whnf) <;> rfl)) ?_)
                            refine TL.cons rfl (V1.t (V1.move' (by (conv => lhs; whnf) <;> rfl)) ?_)
                            refine TL.cons rfl (V1.t (V1.move' (by (conv => lhs; whnf) <;> rfl)) ?_)
                            refine TL.cons rfl (V1.t (V1.indexAddrS ty_84 sz_3 rfl rfl (by omega) (by omega)) ?_)
                            refine TL.cons rfl (V1.t (V1.load1 (v := .int .i64 (j : Nat)) one_3 rfl (int_rd (by repeat (first | exact Find.here | assumption | apply Find.there | apply Find.far)) hjc)) ?_)
                            refine TL.cons rfl (V1.t (V1.indexAddrS ty_105 sz_4 rfl rfl (by omega) (by have := (List.getElem?_eq_some_iff.1 hj).1; omega)) ?_)
                            refine TL.cons rfl (T1.storeE (o := 0 + j * 1) (off := 0) (size := al.length) (cells := (hd2).map Value.bool) (cells' := ((hd2).set j true).map Value.bool) (v := .bool true) rfl rfl sz_4 rfl (by rw [show 0 + j * 1 - 0 = j by omega]; exact set_map) (by repeat (first | exact Sub.one | apply Sub.there | apply Sub.far)) (Nat.zero_le _) (by rw [List.length_map, hlen2]; have := (List.getElem?_eq_some_iff.1 hj).1; omega) ?_)
                            refine TL.nil ?_
                            refine T.region ?_
                            refine TL.cons rfl (V1.t (V1.assign' (by (conv => lhs; whnf) <;> rfl)) ?_)
                            refine TL.nil ?_
                            refine T.region ?_
                            refine TL.cons rfl (V1.t (V1.move' (by (conv => lhs; whnf) <;> rfl)) ?_)
                            refine TL.cons rfl (V1.t (V1.add (c := ((k + 1 : Nat) : Int)) rfl rfl (by rw [wrap_i64 _ (by omega) (by omega)]; omega)) ?_)
                            refine TL.cons rfl (V1.t (V1.assign' (by (conv => lhs; whnf) <;> rfl)) ?_)
                            refine TL.nil ?_
                            exact ⟨(k + 1, true, hd2.set j true), ⟨b12, 0, plcC (js) asx.length, asx.length⟩ :: ⟨b11, 0, [.int .i64 kx, .string (bstr nx), .slice ax asx.length cx], 3⟩ :: ⟨b7, 0, (hd2.set j true).map Value.bool, al.length⟩ :: (Z ++ (⟨b3, 0, [.int .i64 kt, .string (bstr nt), .slice at_ ast.length ct_], 3⟩ :: G)), _, (by simp only; omega), (.cons rfl (.cons rfl .nil)), (.cons rfl (.cons rfl (.cons rfl (.cons rfl (.cons rfl .nil))))), (by repeat (first | exact Take.nil | apply Take.one (by repeat (first | exact Pick.here | apply Pick.there | apply Pick.far)) | apply Take.seg (by repeat (first | exact PickS.last | exact PickS.one | exact PickS.here | exact PickS.nil | apply PickS.there | apply PickS.far)) | exact Take.last (by repeat (first | exact PickS.last | exact PickS.one | exact PickS.here | exact PickS.nil | apply PickS.there | apply PickS.far)))), ⟨rfl, by simp only; omega, hrx5.put hshx hy0 (ho2.1 rfl) hj hbk⟩⟩
                        ·
                          refine TL.cons rfl (V1.t (V1.move' (by (conv => lhs; whnf) <;> rfl)) ?_)
                          refine TL.no rfl ?_
                          refine TL.no rfl ?_
                          refine TL.no rfl ?_
                          refine TL.no rfl ?_
                          refine TL.no rfl ?_
                          refine TL.no rfl ?_
                          refine TL.no rfl ?_
                          refine TL.no rfl ?_
                          refine TL.cons rfl (V1.t (V1.pick rfl (by (conv => lhs; whnf) <;> rfl)) ?_)
                          refine TL.nil ?_
                          refine T.cond_f rfl ?_
                          refine T.skip ?_
                          refine T.live (l := [(6, _), (7, _), (9, _), (10, _), (11, _), (12, _), (18, _)]) (.cons (by (conv => lhs; whnf) <;> rfl) (.cons (by (conv => lhs; whnf) <;> rfl) (.cons (by (conv => lhs; whnf) <;> rfl) (.cons (by (conv => lhs; whnf) <;> rfl) (.cons (by (conv => lhs; whnf) <;> rfl) (.cons (by (conv => lhs; whnf) <;> rfl) (.cons (by (conv => lhs; whnf) <;> rfl) .nil))))))) (fun e_ => ?_)
                          refine T.region ?_
                          refine TL.cons rfl (V1.t (V1.move' (by (conv => lhs; whnf) <;> rfl)) ?_)
                          refine TL.cons rfl (V1.t (V1.add (c := ((k + 1 : Nat) : Int)) rfl rfl (by rw [wrap_i64 _ (by omega) (by omega)]; omega)) ?_)
                          refine TL.cons rfl (V1.t (V1.assign' (by (conv => lhs; whnf) <;> rfl)) ?_)
                          refine TL.nil ?_
                          exact ⟨(k + 1, more2, hd2), ⟨b12, 0, plcC (js) asx.length, asx.length⟩ :: ⟨b11, 0, [.int .i64 kx, .string (bstr nx), .slice ax asx.length cx], 3⟩ :: ⟨b7, 0, (hd2).map Value.bool, al.length⟩ :: (Z ++ (⟨b3, 0, [.int .i64 kt, .string (bstr nt), .slice at_ ast.length ct_], 3⟩ :: G)), _, (by simp only; omega), (.cons rfl (.cons rfl .nil)), (.cons rfl (.cons rfl (.cons rfl (.cons rfl (.cons rfl .nil))))), (by repeat (first | exact Take.nil | apply Take.one (by repeat (first | exact Pick.here | apply Pick.there | apply Pick.far)) | apply Take.seg (by repeat (first | exact PickS.last | exact PickS.one | exact PickS.here | exact PickS.nil | apply PickS.there | apply PickS.far)) | exact Take.last (by repeat (first | exact PickS.last | exact PickS.one | exact PickS.here | exact PickS.nil | apply PickS.there | apply PickS.far)))), ⟨rfl, by simp only; omega, hrx5.skip (fun a ha ho => absurd (ho2.2 ho) (by decide))⟩⟩
                    ·
                      obtain rfl : k = asx.length := by first | omega | (simp at h34; omega)
                      refine TL.nil ?_
                      refine T.cond_f rfl ?_
                      refine T.exit ?_
                      refine T.region ?_
                      refine TL.cons rfl (V1.t (V1.move' (by (conv => lhs; whnf) <;> rfl)) ?_)
                      refine TL.cons rfl (V1.t (V1.add rfl rfl (wrap_i64 _ (by omega) (by omega))) ?_)
                      refine TL.cons rfl (V1.t (V1.assign' (by (conv => lhs; whnf) <;> rfl)) ?_)
                      refine TL.nil ?_
                      exact ⟨(i + 1, more2, hd2), ⟨b7, 0, (hd2).map Value.bool, al.length⟩ :: (Z ++ (⟨b3, 0, [.int .i64 kt, .string (bstr nt), .slice at_ ast.length ct_], 3⟩ :: G)), _, (by simp only; omega), (.cons rfl (.cons rfl .nil)), (.cons rfl (.cons rfl .nil)), (by repeat (first | exact Take.nil | apply Take.one (by repeat (first | exact Pick.here | apply Pick.there | apply Pick.far)) | apply Take.seg (by repeat (first | exact PickS.last | exact PickS.one | exact PickS.here | exact PickS.nil | apply PickS.there | apply PickS.far)) | exact Take.last (by repeat (first | exact PickS.last | exact PickS.one | exact PickS.here | exact PickS.nil | apply PickS.there | apply PickS.far)))), ⟨rfl, by simp only; omega, hrx5.done hx0⟩⟩
                  ·
                    refine TL.cons rfl (V1.t (V1.not rfl rfl) ?_)
                    refine TL.cons rfl (V1.t (V1.pick rfl (by (conv => lhs; whnf) <;> rfl)) ?_)
                    refine TL.nil ?_
                    refine T.cond_t rfl ?_
                    refine T.seq ?_
                    refine T.region ?_
                    refine TL.cons rfl (V1.t (V1.move' (by (conv => lhs; whnf) <;> rfl)) ?_)
                    refine TL.cons rfl (V1.t (V1.move' (by (conv => lhs; whnf) <;> rfl)) ?_)
                    refine TL.cons rfl (V1.t (V1.indexAddrS ty_105 sz_4 rfl rfl (by omega) (by have := (List.getElem?_eq_some_iff.1 hx0).1; omega)) ?_)
                    refine TL.cons rfl (T1.storeE (o := 0 + i * 1) (off := 0) (size := al.length) (cells := (hd).map Value.bool) (cells' := ((hd).set i true).map Value.bool) (v := .bool true) rfl rfl sz_4 rfl (by rw [show 0 + i * 1 - 0 = i by omega]; exact set_map) (by repeat (first | exact Sub.one | apply Sub.there | apply Sub.far)) (Nat.zero_le _) (by rw [List.length_map, hlen]; have := (List.getElem?_eq_some_iff.1 hx0).1; omega) ?_)
                    refine TL.nil ?_
                    refine T.live (l := [(6, _), (7, _), (10, _), (11, _), (12, _)]) (.cons (by (conv => lhs; whnf) <;> rfl) (.cons (by (conv => lhs; whnf) <;> rfl) (.cons (by (conv => lhs; whnf) <;> rfl) (.cons (by (conv => lhs; whnf) <;> rfl) (.cons (by (conv => lhs; whnf) <;> rfl) .nil))))) (fun e_ => ?_)
                    refine T.region ?_
                    refine TL.cons rfl (V1.t (V1.assign' (by (conv => lhs; whnf) <;> rfl)) ?_)
                    refine TL.nil ?_
                    refine T.seq ?_
                    refine T.seq ?_
                    refine T.region ?_
                    refine TL.cons rfl (V1.t (V1.move' (by (conv => lhs; whnf) <;> rfl)) ?_)
                    refine TL.cons rfl (V1.t (V1.move' (by (conv => lhs; whnf) <;> rfl)) ?_)
                    refine TL.cons rfl (V1.t (V1.indexAddrS ty_105 sz_4 rfl rfl (by omega) (by have := (List.getElem?_eq_some_iff.1 hx0).1; omega)) ?_)
                    refine TL.cons rfl (V1.t (V1.load1 (v := .bool true) one_4 rfl (bool_rd (by repeat (first | exact Find.here | assumption | apply Find.there | apply Find.far)) (by show (hd.set i true)[i]? = some true; rw [List.getElem?_set_self (by rw [hlen]; exact (List.getElem?_eq_some_iff.1 hx0).1)]))) ?_)
                    have hrx_ : RndX (fun y => y ∈ kn) al hd0 i (.mk kx nx asx) 0 true (hd.set i true) := (hrd.put hx0 hbi (whole_der hrd.base.snd hshx (hw2.1 rfl))).open0 ⟨i, hx0, by rw [List.getElem?_set_self (by rw [hlen]; exact (List.getElem?_eq_some_iff.1 hx0).1)]⟩
                    refine TL.cons rfl (V1.t (V1.not rfl rfl) ?_)
                    refine TL.nil ?_
                    refine T.cond_f rfl ?_
                    refine T.skip ?_
                    refine T.seq ?_
                    refine T.region ?_
                    refine TL.cons rfl (V1.t (V1.assign' (by (conv => lhs; whnf) <;> rfl)) ?_)
                    refine TL.nil ?_
                    refine T.block ?_
                    refine T.loopL (σ := Nat × Bool × List Bool) (l0 := [(6, _), (7, _), (10, _), (11, _), (12, _)]) (fun x => [(18, .int .i64 (x.1 : Nat)), (9, .bool x.2.1)]) (fun x L => L = ⟨b12, 0, plcC (js) asx.length, asx.length⟩ :: ⟨b11, 0, [.int .i64 kx, .string (bstr nx), .slice ax asx.length cx], 3⟩ :: ⟨b7, 0, (x.2.2).map Value.bool, al.length⟩ :: (Z ++ (⟨b3, 0, [.int .i64 kt, .string (bstr nt), .slice at_ ast.length ct_], 3⟩ :: G)) ∧ x.1 ≤ asx.length ∧ RndX (fun y => y ∈ kn) al hd0 i (.mk kx nx asx) x.1 x.2.1 x.2.2) (fun x => asx.length - x.1) (0, true, hd.set i true) (.cons rfl (.cons rfl .nil)) (.cons (by (conv => lhs; whnf) <;> rfl) (.cons (by (conv => lhs; whnf) <;> rfl) (.cons (by (conv => lhs; whnf) <;> rfl) (.cons (by (conv => lhs; whnf) <;> rfl) (.cons (by (conv => lhs; whnf) <;> rfl) .nil))))) (by repeat (first | exact Take.nil | apply Take.one (by repeat (first | exact Pick.here | apply Pick.there | apply Pick.far)) | apply Take.seg (by repeat (first | exact PickS.last | exact PickS.one | exact PickS.here | exact PickS.nil | apply PickS.there | apply PickS.far)) | exact Take.last (by repeat (first | exact PickS.last | exact PickS.one | exact PickS.here | exact PickS.nil | apply PickS.there | apply PickS.far)))) (⟨rfl, Nat.zero_le _, hrx_⟩) ?_
                    rintro ⟨k, more2, hd2⟩ e_ L ⟨rfl, hk, hrx5⟩
                    simp only at hk hrx5
                    have hlen2 := hrx5.r.base.len
                    refine T.seq ?_
                    refine T.seq ?_
                    refine T.region ?_
                    refine TL.cons rfl (V1.t (V1.move' (by (conv => lhs; whnf) <;> rfl)) ?_)
                    refine TL.cons rfl (V1.t (V1.move' (by (conv => lhs; whnf) <;> rfl)) ?_)
                    refine TL.cons rfl (V1.t (V1.lenSl ty_84 rfl) ?_)
                    refine TL.cons rfl (T1.ltI_split rfl rfl (fun h34 => ?_) (fun h34 => ?_))
                    ·
                      have hkl : k < asx.length := by first | omega | (simp at h34; omega)
                      obtain ⟨j, y, hjc, hy0, hj⟩ := plc_get (m := asx.length) hpl (i := k) (by omega)
                      obtain ⟨j0, y0, hjc0, hy00, hj0⟩ := plc_get (m := asx.length) hpl (i := 0) (by omega)
                      obtain ⟨bk, hbk⟩ : ∃ b, hd2[j]? = some b := ⟨_, List.getElem?_eq_getElem (by rw [hlen2]; exact (List.getElem?_eq_some_iff.1 hj).1)⟩
                      obtain ⟨bz, hbz⟩ : ∃ b, hd2[j0]? = some b := ⟨_, List.getElem?_eq_getElem (by rw [hlen2]; exact (List.getElem?_eq_some_iff.1 hj0).1)⟩
                      have hbkh := had_b hnd hj hbk
                      have hbzh := had_b hnd hj0 hbz
                      refine TL.nil ?_
                      refine T.cond_t rfl ?_
                      refine T.skip ?_
                      refine T.seq ?_
                      refine T.block ?_
                      refine T.cut (σ := Bool) (l0 := [(6, _), (7, _), (9, _), (10, _), (11, _), (12, _), (18, _)]) (fun x => [(19, .bool x)]) (fun x L => L = ⟨b12, 0, plcC (js) asx.length, asx.length⟩ :: ⟨b11, 0, [.int .i64 kx, .string (bstr nx), .slice ax asx.length cx], 3⟩ :: ⟨b7, 0, (hd2).map Value.bool, al.length⟩ :: (Z ++ (⟨b3, 0, [.int .i64 kt, .string (bstr nt), .slice at_ ast.length ct_], 3⟩ :: G)) ∧ (x = true ↔ OpenK (Had al hd2) (.mk kx nx asx) k)) (.cons (by (conv => lhs; whnf) <;> rfl) (.cons (by (conv => lhs; whnf) <;> rfl) (.cons (by (conv => lhs; whnf) <;> rfl) (.cons (by (conv => lhs; whnf) <;> rfl) (.cons (by (conv => lhs; whnf) <;> rfl) (.cons (by (conv => lhs; whnf) <;> rfl) (.cons (by (conv => lhs; whnf) <;> rfl) .nil))))))) ?_ ?_
                      ·
                        refine T.region ?_
                        refine TL.cons rfl (V1.t (V1.fieldAddr fl_49_0 rfl) ?_)
                        refine TL.cons rfl (V1.t (V1.load1 one_3 rfl (.own (by repeat (first | exact Find.here | assumption | apply Find.there | apply Find.far)) (by rfl))) ?_)
                        refine TL.cons rfl (T1.eqI_split rfl rfl (fun g2 => ?_) (fun g2 => ?_))
                        ·
                          refine TL.cons rfl (V1.t (V1.move' (by (conv => lhs; whnf) <;> rfl)) ?_)
                          refine TL.no rfl ?_
                          refine TL.no rfl ?_
                          refine TL.no rfl ?_
                          refine TL.no rfl ?_
                          refine TL.no rfl ?_
                          refine TL.no rfl ?_
                          refine TL.no rfl ?_
                          refine TL.cons rfl (V1.t (V1.pick rfl (by (conv => lhs; whnf) <;> rfl)) ?_)
                          refine TL.cons rfl (V1.t (V1.move' (by (conv => lhs; whnf) <;> rfl)) ?_)
                          refine TL.no rfl ?_
                          refine TL.no rfl ?_
                          refine TL.no rfl ?_
                          refine TL.no rfl ?_
                          refine TL.no rfl ?_
                          refine TL.no rfl ?_
                          refine TL.no rfl ?_
                          refine TL.no rfl ?_
                          refine TL.no rfl ?_
                          refine TL.no rfl ?_
                          refine TL.no rfl ?_
                          refine TL.no rfl ?_
                          refine TL.no rfl ?_
                          refine TL.no rfl ?_
                          refine TL.no rfl ?_
                          refine TL.cons rfl (V1.t (V1.pick rfl (by (conv => lhs; whnf) <;> rfl)) ?_)
                          refine TL.cons rfl (V1.t (V1.assign' (by (conv => lhs; whnf) <;> rfl)) ?_)
                          refine TL.nil ?_
                          exact ⟨_, _, _, trivial, (.cons rfl .nil), (.cons rfl (.cons rfl (.cons rfl (.cons rfl (.cons rfl (.cons rfl (.cons rfl .nil))))))), (by repeat (first | exact Take.nil | apply Take.one (by repeat (first | exact Pick.here | apply Pick.there | apply Pick.far)) | apply Take.seg (by repeat (first | exact PickS.last | exact PickS.one | exact PickS.here | exact PickS.nil | apply PickS.there | apply PickS.far)) | exact Take.last (by repeat (first | exact PickS.last | exact PickS.one | exact PickS.here | exact PickS.nil | apply PickS.there | apply PickS.far)))), ⟨rfl, by unfold OpenK; simp_all [Tm.kind, Tm.args]⟩⟩
                        ·
                          refine TL.cons rfl (V1.t (V1.move' (by (conv => lhs; whnf) <;> rfl)) ?_)
                          refine TL.cons rfl (V1.t (V1.fieldAddr fl_49_0 rfl) ?_)
                          refine TL.cons rfl (V1.t (V1.load1 one_3 rfl (.own (by repeat (first | exact Find.here | assumption | apply Find.there | apply Find.far)) (by rfl))) ?_)
                          refine TL.cons rfl (T1.eqI_split rfl rfl (fun g8 => ?_) (fun g8 => ?_))
                          ·
                            refine TL.cons rfl (V1.t (V1.move' (by (conv => lhs; whnf) <;> rfl)) ?_)
                            refine TL.cons rfl (V1.t (V1.move' (by (conv => lhs; whnf) <;> rfl)) ?_)
                            refine TL.cons rfl (T1.eqI_split rfl rfl (fun gk => ?_) (fun gk => ?_))
                            ·
                              have gkn : k = 1 := by omega
                              refine TL.cons rfl (V1.t (V1.pick rfl (by (conv => lhs; whnf) <;> rfl)) ?_)
                              refine TL.cons rfl (V1.t (V1.pick rfl (by (conv => lhs; whnf) <;> rfl)) ?_)
                              refine TL.cons rfl (V1.t (V1.move' (by (conv => lhs; whnf) <;> rfl)) ?_)
                              refine TL.no rfl ?_
                              refine TL.no rfl ?_
                              refine TL.no rfl ?_
                              refine TL.no rfl ?_
                              refine TL.no rfl ?_
                              refine TL.no rfl ?_
                              refine TL.no rfl ?_
                              refine TL.no rfl ?_
                              refine TL.no rfl ?_
                              refine TL.no rfl ?_
                              refine TL.no rfl ?_
                              refine TL.no rfl ?_
                              refine TL.no rfl ?_
                              refine TL.no rfl ?_
                              refine TL.no rfl ?_
                              refine TL.cons rfl (V1.t (V1.pick rfl (by (conv => lhs; whnf) <;> rfl)) ?_)
                              refine TL.cons rfl (V1.t (V1.assign' (by (conv => lhs; whnf) <;> rfl)) ?_)
                              refine TL.nil ?_
                              exact ⟨_, _, _, trivial, (.cons rfl .nil), (.cons rfl (.cons rfl (.cons rfl (.cons rfl (.cons rfl (.cons rfl (.cons rfl .nil))))))), (by repeat (first | exact Take.nil | apply Take.one (by repeat (first | exact Pick.here | apply Pick.there | apply Pick.far)) | apply Take.seg (by repeat (first | exact PickS.last | exact PickS.one | exact PickS.here | exact PickS.nil | apply PickS.there | apply PickS.far)) | exact Take.last (by repeat (first | exact PickS.last | exact PickS.one | exact PickS.here | exact PickS.nil | apply PickS.there | apply PickS.far)))), ⟨rfl, by unfold OpenK; simp_all [Tm.kind, Tm.args]⟩⟩
                            ·
                              have gkn : k ≠ 1 := by omega
                              refine TL.cons rfl (V1.t (V1.pick rfl (by (conv => lhs; whnf) <;> rfl)) ?_)
                              refine TL.cons rfl (V1.t (V1.pick rfl (by (conv => lhs; whnf) <;> rfl)) ?_)
                              refine TL.cons rfl (V1.t (V1.move' (by (conv => lhs; whnf) <;> rfl)) ?_)
                              refine TL.cons rfl (V1.t (V1.fieldAddr fl_49_0 rfl) ?_)
                              refine TL.cons rfl (V1.t (V1.load1 one_3 rfl (.own (by repeat (first | exact Find.here | assumption | apply Find.there | apply Find.far)) (by rfl))) ?_)
                              refine TL.cons rfl (T1.eqI_split rfl rfl (fun g3 => ?_) (fun g3 => ?_))
                              ·
                                refine TL.cons rfl (V1.t (V1.move' (by (conv => lhs; whnf) <;> rfl)) ?_)
                                refine TL.cons rfl (V1.t (V1.move' (by (conv => lhs; whnf) <;> rfl)) ?_)
                                refine TL.cons rfl (T1.eqI_split rfl rfl (fun gk2 => ?_) (fun gk2 => ?_))
                                ·
                                  have gkn : k = 1 := by omega
                                  refine TL.cons rfl (V1.t (V1.pick rfl (by (conv => lhs; whnf) <;> rfl)) ?_)
                                  refine TL.cons rfl (V1.t (V1.move' (by (conv => lhs; whnf) <;> rfl)) ?_)
                                  refine TL.cons rfl (V1.t (V1.move' (by (conv => lhs; whnf) <;> rfl)) ?_)
                                  refine TL.cons rfl (V1.t (V1.move' (by (conv => lhs; whnf) <;> rfl)) ?_)
                                  refine TL.cons rfl (V1.t (V1.indexAddrS ty_84 sz_3 rfl rfl (by omega) (by omega)) ?_)
                                  refine TL.cons rfl (V1.t (V1.load1 (v := .int .i64 (j0 : Nat)) one_3 rfl (int_rd (k := 0) (by repeat (first | exact Find.here | assumption | apply Find.there | apply Find.far)) hjc0)) ?_)
                                  refine TL.cons rfl (V1.t (V1.indexAddrS ty_105 sz_4 rfl rfl (by omega) (by have := (List.getElem?_eq_some_iff.1 hj0).1; omega)) ?_)
                                  refine TL.cons rfl (V1.t (V1.load1 (v := .bool bz) one_4 rfl (bool_rd (by repeat (first | exact Find.here | assumption | apply Find.there | apply Find.far)) hbz)) ?_)
                                  rcases Bool.eq_false_or_eq_true bz with e_bz | e_bz <;> subst e_bz
                                  ·
                                    refine TL.cons rfl (V1.t (V1.pick rfl (by (conv => lhs; whnf) <;> rfl)) ?_)
                                    refine TL.cons rfl (V1.t (V1.pick rfl (by (conv => lhs; whnf) <;> rfl)) ?_)
                                    refine TL.cons rfl (V1.t (V1.assign' (by (conv => lhs; whnf) <;> rfl)) ?_)
                                    refine TL.nil ?_
                                    exact ⟨_, _, _, trivial, (.cons rfl .nil), (.cons rfl (.cons rfl (.cons rfl (.cons rfl (.cons rfl (.cons rfl (.cons rfl .nil))))))), (by repeat (first | exact Take.nil | apply Take.one (by repeat (first | exact Pick.here | apply Pick.there | apply Pick.far)) | apply Take.seg (by repeat (first | exact PickS.last | exact PickS.one | exact PickS.here | exact PickS.nil | apply PickS.there | apply PickS.far)) | exact Take.last (by repeat (first | exact PickS.last | exact PickS.one | exact PickS.here | exact PickS.nil | apply PickS.there | apply PickS.far)))), ⟨rfl, by unfold OpenK; simp_all [Tm.kind, Tm.args]⟩⟩
                                  ·
                                    refine TL.cons rfl (V1.t (V1.pick rfl (by (conv => lhs; whnf) <;> rfl)) ?_)
                                    refine TL.cons rfl (V1.t (V1.pick rfl (by (conv => lhs; whnf) <;> rfl)) ?_)
                                    refine TL.cons rfl (V1.t (V1.assign' (by (conv => lhs; whnf) <;> rfl)) ?_)
                                    refine TL.nil ?_
                                    exact ⟨_, _, _, trivial, (.cons rfl .nil), (.cons rfl (.cons rfl (.cons rfl (.cons rfl (.cons rfl (.cons rfl (.cons rfl .nil))))))), (by repeat (first | exact Take.nil | apply Take.one (by repeat (first | exact Pick.here | apply Pick.there | apply Pick.far)) | apply Take.seg (by repeat (first | exact PickS.last | exact PickS.one | exact PickS.here | exact PickS.nil | apply PickS.there | apply PickS.far)) | exact Take.last (by repeat (first | exact PickS.last | exact PickS.one | exact PickS.here | exact PickS.nil | apply PickS.there | apply PickS.far)))), ⟨rfl, by unfold OpenK; simp_all [Tm.kind, Tm.args]⟩⟩
                                ·
                                  have gkn : k ≠ 1 := by omega
                                  refine TL.cons rfl (V1.t (V1.pick rfl (by (conv => lhs; whnf) <;> rfl)) ?_)
                                  refine TL.cons rfl (V1.t (V1.move' (by (conv => lhs; whnf) <;> rfl)) ?_)
                                  refine TL.no rfl ?_
                                  refine TL.no rfl ?_
                                  refine TL.no rfl ?_
                                  refine TL.no rfl ?_
                                  refine TL.no rfl ?_
                                  refine TL.no rfl ?_
                                  refine TL.cons rfl (V1.t (V1.pick rfl (by (conv => lhs; whnf) <;> rfl)) ?_)
                                  refine TL.cons rfl (V1.t (V1.pick rfl (by (conv => lhs; whnf) <;> rfl)) ?_)
                                  refine TL.cons rfl (V1.t (V1.assign' (by (conv => lhs; whnf) <;> rfl)) ?_)
                                  refine TL.nil ?_
                                  exact ⟨_, _, _, trivial, (.cons rfl .nil), (.cons rfl (.cons rfl (.cons rfl (.cons rfl (.cons rfl (.cons rfl (.cons rfl .nil))))))), (by repeat (first | exact Take.nil | apply Take.one (by repeat (first | exact Pick.here | apply Pick.there | apply Pick.far)) | apply Take.seg (by repeat (first | exact PickS.last | exact PickS.one | exact PickS.here | exact PickS.nil | apply PickS.there | apply PickS.far)) | exact Take.last (by repeat (first | exact PickS.last | exact PickS.one | exact PickS.here | exact PickS.nil | apply PickS.there | apply PickS.far)))), ⟨rfl, by unfold OpenK; simp_all [Tm.kind, Tm.args]⟩⟩
                              ·
                                refine TL.cons rfl (V1.t (V1.move' (by (conv => lhs; whnf) <;> rfl)) ?_)
                                refine TL.no rfl ?_
                                refine TL.no rfl ?_
                                refine TL.cons rfl (V1.t (V1.pick rfl (by (conv => lhs; whnf) <;> rfl)) ?_)
                                refine TL.cons rfl (V1.t (V1.move' (by (conv => lhs; whnf) <;> rfl)) ?_)
                                refine TL.no rfl ?_
                                refine TL.no rfl ?_
                                refine TL.no rfl ?_
                                refine TL.no rfl ?_
                                refine TL.no rfl ?_
                                refine TL.no rfl ?_
                                refine TL.cons rfl (V1.t (V1.pick rfl (by (conv => lhs; whnf) <;> rfl)) ?_)
                                refine TL.cons rfl (V1.t (V1.pick rfl (by (conv => lhs; whnf) <;> rfl)) ?_)
                                refine TL.cons rfl (V1.t (V1.assign' (by (conv => lhs; whnf) <;> rfl)) ?_)
                                refine TL.nil ?_
                                exact ⟨_, _, _, trivial, (.cons rfl .nil), (.cons rfl (.cons rfl (.cons rfl (.cons rfl (.cons rfl (.cons rfl (.cons rfl .nil))))))), (by repeat (first | exact Take.nil | apply Take.one (by repeat (first | exact Pick.here | apply Pick.there | apply Pick.far)) | apply Take.seg (by repeat (first | exact PickS.last | exact PickS.one | exact PickS.here | exact PickS.nil | apply PickS.there | apply PickS.far)) | exact Take.last (by repeat (first | exact PickS.last | exact PickS.one | exact PickS.here | exact PickS.nil | apply PickS.there | apply PickS.far)))), ⟨rfl, by unfold OpenK; simp_all [Tm.kind, Tm.args]⟩⟩
                          ·
                            refine TL.cons rfl (V1.t (V1.move' (by (conv => lhs; whnf) <;> rfl)) ?_)
                            refine TL.no rfl ?_
                            refine TL.no rfl ?_
                            refine TL.cons rfl (V1.t (V1.pick rfl (by (conv => lhs; whnf) <;> rfl)) ?_)
                            refine TL.cons rfl (V1.t (V1.pick rfl (by (conv => lhs; whnf) <;> rfl)) ?_)
                            refine TL.cons rfl (V1.t (V1.move' (by (conv => lhs; whnf) <;> rfl)) ?_)
                            refine TL.cons rfl (V1.t (V1.fieldAddr fl_49_0 rfl) ?_)
                            refine TL.cons rfl (V1.t (V1.load1 one_3 rfl (.own (by repeat (first | exact Find.here | assumption | apply Find.there | apply Find.far)) (by rfl))) ?_)
                            refine TL.cons rfl (T1.eqI_split rfl rfl (fun g3 => ?_) (fun g3 => ?_))
                            ·
                              refine TL.cons rfl (V1.t (V1.move' (by (conv => lhs; whnf) <;> rfl)) ?_)
                              refine TL.cons rfl (V1.t (V1.move' (by (conv => lhs; whnf) <;> rfl)) ?_)
                              refine TL.cons rfl (T1.eqI_split rfl rfl (fun gk2 => ?_) (fun gk2 => ?_))
                              ·
                                have gkn : k = 1 := by omega
                                refine TL.cons rfl (V1.t (V1.pick rfl (by (conv => lhs; whnf) <;> rfl)) ?_)
                                refine TL.cons rfl (V1.t (V1.move' (by (conv => lhs; whnf) <;> rfl)) ?_)
                                refine TL.cons rfl (V1.t (V1.move' (by (conv => lhs; whnf) <;> rfl)) ?_)
                                refine TL.cons rfl (V1.t (V1.move' (by (conv => lhs; whnf) <;> rfl)) ?_)
                                refine TL.cons rfl (V1.t (V1.indexAddrS ty_84 sz_3 rfl rfl (by omega) (by omega)) ?_)
                                refine TL.cons rfl (V1.t (V1.load1 (v := .int .i64 (j0 : Nat)) one_3 rfl (int_rd (k := 0) (by repeat (first | exact Find.here | assumption | apply Find.there | apply Find.far)) hjc0)) ?_)
                                refine TL.cons rfl (V1.t (V1.indexAddrS ty_105 sz_4 rfl rfl (by omega) (by have := (List.getElem?_eq_some_iff.1 hj0).1; omega)) ?_)
                                refine TL.cons rfl (V1.t (V1.load1 (v := .bool bz) one_4 rfl (bool_rd (by repeat (first | exact Find.here | assumption | apply Find.there | apply Find.far)) hbz)) ?_)
                                rcases Bool.eq_false_or_eq_true bz with e_bz | e_bz <;> subst e_bz
                                ·
                                  refine TL.cons rfl (V1.t (V1.pick rfl (by (conv => lhs; whnf) <;> rfl)) ?_)
                                  refine TL.cons rfl (V1.t (V1.pick rfl (by (conv => lhs; whnf) <;> rfl)) ?_)
                                  refine TL.cons rfl (V1.t (V1.assign' (by (conv => lhs; whnf) <;> rfl)) ?_)
                                  refine TL.nil ?_
                                  exact ⟨_, _, _, trivial, (.cons rfl .nil), (.cons rfl (.cons rfl (.cons rfl (.cons rfl (.cons rfl (.cons rfl (.cons rfl .nil))))))), (by repeat (first | exact Take.nil | apply Take.one (by repeat (first | exact Pick.here | apply Pick.there | apply Pick.far)) | apply Take.seg (by repeat (first | exact PickS.last | exact PickS.one | exact PickS.here | exact PickS.nil | apply PickS.there | apply PickS.far)) | exact Take.last (by repeat (first | exact PickS.last | exact PickS.one | exact PickS.here | exact PickS.nil | apply PickS.there | apply PickS.far)))), ⟨rfl, by unfold OpenK; simp_all [Tm.kind, Tm.args]⟩⟩
                                ·
                                  refine TL.cons rfl (V1.t (V1.pick rfl (by (conv => lhs; whnf) <;> rfl)) ?_)
                                  refine TL.cons rfl (V1.t (V1.pick rfl (by (conv => lhs; whnf) <;> rfl)) ?_)
                                  refine TL.cons rfl (V1.t (V1.assign' (by (conv => lhs; whnf) <;> rfl)) ?_)
                                  refine TL.nil ?_
                                  exact ⟨_, _, _, trivial, (.cons rfl .nil), (.cons rfl (.cons rfl (.cons rfl (.cons rfl (.cons rfl (.cons rfl (.cons rfl .nil))))))), (by repeat (first | exact Take.nil | apply Take.one (by repeat (first | exact Pick.here | apply Pick.there | apply Pick.far)) | apply Take.seg (by repeat (first | exact PickS.last | exact PickS.one | exact PickS.here | exact PickS.nil | apply PickS.there | apply PickS.far)) | exact Take.last (by repeat (first | exact PickS.last | exact PickS.one | exact PickS.here | exact PickS.nil | apply PickS.there | apply PickS.far)))), ⟨rfl, by unfold OpenK; simp_all [Tm.kind, Tm.args]⟩⟩
                              ·
                                have gkn : k ≠ 1 := by omega
                                refine TL.cons rfl (V1.t (V1.pick rfl (by (conv => lhs; whnf) <;> rfl)) ?_)
                                refine TL.cons rfl (V1.t (V1.move' (by (conv => lhs; whnf) <;> rfl)) ?_)
                                refine TL.no rfl ?_
                                refine TL.no rfl ?_
                                refine TL.no rfl ?_
                                refine TL.no rfl ?_
                                refine TL.no rfl ?_
                                refine TL.no rfl ?_
                                refine TL.cons rfl (V1.t (V1.pick rfl (by (conv => lhs; whnf) <;> rfl)) ?_)
                                refine TL.cons rfl (V1.t (V1.pick rfl (by (conv => lhs; whnf) <;> rfl)) ?_)
                                refine TL.cons rfl (V1.t (V1.assign' (by (conv => lhs; whnf) <;> rfl)) ?_)
                                refine TL.nil ?_
                                exact ⟨_, _, _, trivial, (.cons rfl .nil), (.cons rfl (.cons rfl (.cons rfl (.cons rfl (.cons rfl (.cons rfl (.cons rfl .nil))))))), (by repeat (first | exact Take.nil | apply Take.one (by repeat (first | exact Pick.here | apply Pick.there | apply Pick.far)) | apply Take.seg (by repeat (first | exact PickS.last | exact PickS.one | exact PickS.here | exact PickS.nil | apply PickS.there | apply PickS.far)) | exact Take.last (by repeat (first | exact PickS.last | exact PickS.one | exact PickS.here | exact PickS.nil | apply PickS.there | apply PickS.far)))), ⟨rfl, by unfold OpenK; simp_all [Tm.kind, Tm.args]⟩⟩
                            ·
                              refine TL.cons rfl (V1.t (V1.move' (by (conv => lhs; whnf) <;> rfl)) ?_)
                              refine TL.no rfl ?_
                              refine TL.no rfl ?_
                              refine TL.cons rfl (V1.t (V1.pick rfl (by (conv => lhs; whnf) <;> rfl)) ?_)
                              refine TL.cons rfl (V1.t (V1.move' (by (conv => lhs; whnf) <;> rfl)) ?_)
                              refine TL.no rfl ?_
                              refine TL.no rfl ?_
                              refine TL.no rfl ?_
                              refine TL.no rfl ?_
                              refine TL.no rfl ?_
                              refine TL.no rfl ?_
                              refine TL.cons rfl (V1.t (V1.pick rfl (by (conv => lhs; whnf) <;> rfl)) ?_)
                              refine TL.cons rfl (V1.t (V1.pick rfl (by (conv => lhs; whnf) <;> rfl)) ?_)
                              refine TL.cons rfl (V1.t (V1.assign' (by (conv => lhs; whnf) <;> rfl)) ?_)
                              refine TL.nil ?_
                              exact ⟨_, _, _, trivial, (.cons rfl .nil), (.cons rfl (.cons rfl (.cons rfl (.cons rfl (.cons rfl (.cons rfl (.cons rfl .nil))))))), (by repeat (first | exact Take.nil | apply Take.one (by repeat (first | exact Pick.here | apply Pick.there | apply Pick.far)) | apply Take.seg (by repeat (first | exact PickS.last | exact PickS.one | exact PickS.here | exact PickS.nil | apply PickS.there | apply PickS.far)) | exact Take.last (by repeat (first | exact PickS.last | exact PickS.one | exact PickS.here | exact PickS.nil | apply PickS.there | apply PickS.far)))), ⟨rfl, by unfold OpenK; simp_all [Tm.kind, Tm.args]⟩⟩
                      ·
                        rintro o2 e_ L ⟨rfl, ho2⟩
                        refine T.seq ?_
                        refine T.region ?_
                        refine TL.cons rfl (V1.t (V1.move' (by (conv => lhs; whnf) <;> rfl)) ?_)
                        rcases Bool.eq_false_or_eq_true o2 with e_o | e_o <;> subst e_o
                        ·
                          refine TL.cons rfl (V1.t (V1.move' (by (conv => lhs; whnf) <;> rfl)) ?_)
                          refine TL.cons rfl (V1.t (V1.move' (by (conv => lhs; whnf) <;> rfl)) ?_)
                          refine TL.cons rfl (V1.t (V1.move' (by (conv => lhs; whnf) <;> rfl)) ?_)
                          refine TL.cons rfl (V1.t (V1.move' (by (conv => lhs; whnf) <;> rfl)) ?_)
                          refine TL.cons rfl (V1.t (V1.indexAddrS ty_84 sz_3 rfl rfl (by omega) (by omega)) ?_)
                          refine TL.cons rfl (V1.t (V1.load1 (v := .int .i64 (j : Nat)) one_3 rfl (int_rd (by repeat (first | exact Find.here | assumption | apply Find.there | apply Find.far)) hjc)) ?_)
                          refine TL.cons rfl (V1.t (V1.indexAddrS ty_105 sz_4 rfl rfl (by omega) (by have := (List.getElem?_eq_some_iff.1 hj).1; omega)) ?_)
                          refine TL.cons rfl (V1.t (V1.load1 (v := .bool bk) one_4 rfl (bool_rd (by repeat (first | exact Find.here | assumption | apply Find.there | apply Find.far)) hbk)) ?_)
                          rcases Bool.eq_false_or_eq_true bk with e_bk | e_bk <;> subst e_bk
                          ·
                            refine TL.cons rfl (V1.t (V1.not rfl rfl) ?_)
                            refine TL.cons rfl (V1.t (V1.pick rfl (by (conv => lhs; whnf) <;> rfl)) ?_)
                            refine TL.nil ?_
                            refine T.cond_f rfl ?_
                            refine T.skip ?_
                            refine T.live (l := [(6, _), (7, _), (9, _), (10, _), (11, _), (12, _), (18, _)]) (.cons (by (conv => lhs; whnf) <;> rfl) (.cons (by (conv => lhs; whnf) <;> rfl) (.cons (by (conv => lhs; whnf) <;> rfl) (.cons (by (conv => lhs; whnf) <;> rfl) (.cons (by (conv => lhs; whnf) <;> rfl) (.cons (by (conv => lhs; whnf) <;> rfl) (.cons (by (conv => lhs; whnf) <;> rfl) .nil))))))) (fun e_ => ?_)
                            refine T.region ?_
                            refine TL.cons rfl (V1.t (V1.move' (by (conv => lhs; whnf) <;> rfl)) ?_)
                            refine TL.cons rfl (V1.t (V1.add (c := ((k + 1 : Nat) : Int)) rfl rfl (by rw [wrap_i64 _ (by omega) (by omega)]; omega)) ?_)
                            refine TL.cons rfl (V1.t (V1.assign' (by (conv => lhs; whnf) <;> rfl)) ?_)
                            refine TL.nil ?_
                            exact ⟨(k + 1, more2, hd2), ⟨b12, 0, plcC (js) asx.length, asx.length⟩ :: ⟨b11, 0, [.int .i64 kx, .string (bstr nx), .slice ax asx.length cx], 3⟩ :: ⟨b7, 0, (hd2).map Value.bool, al.length⟩ :: (Z ++ (⟨b3, 0, [.int .i64 kt, .string (bstr nt), .slice at_ ast.length ct_], 3⟩ :: G)), _, (by simp only; omega), (.cons rfl (.cons rfl .nil)), (.cons rfl (.cons rfl (.cons rfl (.cons rfl (.cons rfl .nil))))), (by repeat (first | exact Take.nil | apply Take.one (by repeat (first | exact Pick.here | apply Pick.there | apply Pick.far)) | apply Take.seg (by repeat (first | exact PickS.last | exact PickS.one | exact PickS.here | exact PickS.nil | apply PickS.there | apply PickS.far)) | exact Take.last (by repeat (first | exact PickS.last | exact PickS.one | exact PickS.here | exact PickS.nil | apply PickS.there | apply PickS.far)))), ⟨rfl, by simp only; omega, hrx5.skip (fun a ha ho => (by have e := Option.some.inj ((show asx[k]? = some a from ha).symm.trans hy0); subst e; exact hbkh.1 rfl))⟩⟩
                          ·
                            refine TL.cons rfl (V1.t (V1.not rfl rfl) ?_)
                            refine TL.cons rfl (V1.t (V1.pick rfl (by (conv => lhs; whnf) <;> rfl)) ?_)
                            refine TL.nil ?_
                            refine T.cond_t rfl ?_
                            refine T.seq ?_
                            refine T.live (l := [(6, _), (7, _), (10, _), (11, _), (12, _), (18, _)]) (.cons (by (conv => lhs; whnf) <;> rfl) (.cons (by (conv => lhs; whnf) <;> rfl) (.cons (by (conv => lhs; whnf) <;> rfl) (.cons (by (conv => lhs; whnf) <;> rfl) (.cons (by (conv => lhs; whnf) <;> rfl) (.cons (by (conv => lhs; whnf) <;> rfl) .nil)))))) (fun e_ => ?_)
                            refine T.region ?_
                            refine TL.cons rfl (V1.t (V1.move' (by (conv => lhs; whnf) <;> rfl)) ?_)
                            refine TL.cons rfl (V1.t (V1.move' (by (conv => lhs; whnf) <;> rfl)) ?_)
                            refine TL.cons rfl (V1.t (V1.move' (by (conv => lhs; whnf) <;> rfl)) ?_)
                            refine TL.cons rfl (V1.t (V1.indexAddrS ty_84 sz_3 rfl rfl (by omega) (by omega)) ?_)
                            refine TL.cons rfl (V1.t (V1.load1 (v := .int .i64 (j : Nat)) one_3 rfl (int_rd (by repeat (first | exact Find.here | assumption | apply Find.there | apply Find.far)) hjc)) ?_)
                            refine TL.cons rfl (V1.t (V1.indexAddrS ty_105 sz_4 rfl rfl (by omega) (by have := (List.getElem?_eq_some_iff.1 hj).1; omega)) ?_)
                            refine TL.cons rfl (T1.storeE (o := 0 + j * 1) (off := 0) (size := al.length) (cells := (hd2).map Value.bool) (cells' := ((hd2).set j true).map Value.bool) (v := .bool true) rfl rfl sz_4 rfl (by rw [show 0 + j * 1 - 0 = j by omega]; exact set_map) (by repeat (first | exact Sub.one | apply Sub.there | apply Sub.far)) (Nat.zero_le _) (by rw [List.length_map, hlen2]; have := (List.getElem?_eq_some_iff.1 hj).1; omega) ?_)
                            refine TL.nil ?_
                            refine T.region ?_
                            refine TL.cons rfl (V1.t (V1.assign' (by (conv => lhs; whnf) <;> rfl)) ?_)
                            refine TL.nil ?_
                            refine T.region ?_
                            refine TL.cons rfl (V1.t (V1.move' (by (conv => lhs; whnf) <;> rfl)) ?_)
                            refine TL.cons rfl (V1.t (V1.add (c := ((k + 1 : Nat) : Int)) rfl rfl (by rw [wrap_i64 _ (by omega) (by omega)]; omega)) ?_)
                            refine TL.cons rfl (V1.t (V1.assign' (by (conv => lhs; whnf) <;> rfl)) ?_)
                            refine TL.nil ?_
                            exact ⟨(k + 1, true, hd2.set j true), ⟨b12, 0, plcC (js) asx.length, asx.length⟩ :: ⟨b11, 0, [.int .i64 kx, .string (bstr nx), .slice ax asx.length cx], 3⟩ :: ⟨b7, 0, (hd2.set j true).map Value.bool, al.length⟩ :: (Z ++ (⟨b3, 0, [.int .i64 kt, .string (bstr nt), .slice at_ ast.length ct_], 3⟩ :: G)), _, (by simp only; omega), (.cons rfl (.cons rfl .nil)), (.cons rfl (.cons rfl (.cons rfl (.cons rfl (.cons rfl .nil))))), (by repeat (first | exact Take.nil | apply Take.one (by repeat (first | exact Pick.here | apply Pick.there | apply Pick.far)) | apply Take.seg (by repeat (first | exact PickS.last | exact PickS.one | exact PickS.here | exact PickS.nil | apply PickS.there | apply PickS.far)) | exact Take.last (by repeat (first | exact PickS.last | exact PickS.one | exact PickS.here | exact PickS.nil | apply PickS.there | apply PickS.far)))), ⟨rfl, by simp only; omega, hrx5.put hshx hy0 (ho2.1 rfl) hj hbk⟩⟩
                        ·
                          refine TL.cons rfl (V1.t (V1.move' (by (conv => lhs; whnf) <;> rfl)) ?_)
                          refine TL.no rfl ?_
                          refine TL.no rfl ?_
                          refine TL.no rfl ?_
                          refine TL.no rfl ?_
                          refine TL.no rfl ?_
                          refine TL.no rfl ?_
                          refine TL.no rfl ?_
                          refine TL.no rfl ?_
                          refine TL.cons rfl (V1.t (V1.pick rfl (by (conv => lhs; whnf) <;> rfl)) ?_)
                          refine TL.nil ?_
                          refine T.cond_f rfl ?_
                          refine T.skip ?_
                          refine T.live (l := [(6, _), (7, _), (9, _), (10, _), (11, _), (12, _), (18, _)]) (.cons (by (conv => lhs; whnf) <;> rfl) (.cons (by (conv => lhs; whnf) <;> rfl) (.cons (by (conv => lhs; whnf) <;> rfl) (.cons (by (conv => lhs; whnf) <;> rfl) (.cons (by (conv => lhs; whnf) <;> rfl) (.cons (by (conv => lhs; whnf) <;> rfl) (.cons (by (conv => lhs; whnf) <;> rfl) .nil))))))) (fun e_ => ?_)
                          refine T.region ?_
                          refine TL.cons rfl (V1.t (V1.move' (by (conv => lhs; whnf) <;> rfl)) ?_)
                          refine TL.cons rfl (V1.t (V1.add (c := ((k + 1 : Nat) : Int)) rfl rfl (by rw [wrap_i64 _ (by omega) (by omega)]; omega)) ?_)
                          refine TL.cons rfl (V1.t (V1.assign' (by (conv => lhs; whnf) <;> rfl)) ?_)
                          refine TL.nil ?_
                          exact ⟨(k + 1, more2, hd2), ⟨b12, 0, plcC (js) asx.length, asx.length⟩ :: ⟨b11, 0, [.int .i64 kx, .string (bstr nx), .slice ax asx.length cx], 3⟩ :: ⟨b7, 0, (hd2).map Value.bool, al.length⟩ :: (Z ++ (⟨b3, 0, [.int .i64 kt, .string (bstr nt), .slice at_ ast.length ct_], 3⟩ :: G)), _, (by simp only; omega), (.cons rfl (.cons rfl .nil)), (.cons rfl (.cons rfl (.cons rfl (.cons rfl (.cons rfl .nil))))), (by repeat (first | exact Take.nil | apply Take.one (by repeat (first | exact Pick.here | apply Pick.there | apply Pick.far)) | apply Take.seg (by repeat (first | exact PickS.last | exact PickS.one | exact PickS.here | exact PickS.nil | apply PickS.there | apply PickS.far)) | exact Take.last (by repeat (first | exact PickS.last | exact PickS.one | exact PickS.here | exact PickS.nil | apply PickS.there | apply PickS.far)))), ⟨rfl, by simp only; omega, hrx5.skip (fun a ha ho => absurd (ho2.2 ho) (by decide))⟩⟩
                    ·
                      obtain rfl : k = asx.length := by first | omega | (simp at h34; omega)
                      refine TL.nil ?_
                      refine T.cond_f rfl ?_
                      refine T.exit ?_
                      refine T.region ?_
                      refine TL.cons rfl (V1.t (V1.move' (by (conv => lhs; whnf) <;> rfl)) ?_)
                      refine TL.cons rfl (V1.t (V1.add rfl rfl (wrap_i64 _ (by omega) (by omega))) ?_)
                      refine TL.cons rfl (V1.t (V1.assign' (by (conv => lhs; whnf) <;> rfl)) ?_)
                      refine TL.nil ?_
                      exact ⟨(i + 1, more2, hd2), ⟨b7, 0, (hd2).map Value.bool, al.length⟩ :: (Z ++ (⟨b3, 0, [.int .i64 kt, .string (bstr nt), .slice at_ ast.length ct_], 3⟩ :: G)), _, (by simp only; omega), (.cons rfl (.cons rfl .nil)), (.cons rfl (.cons rfl .nil)), (by repeat (first | exact Take.nil | apply Take.one (by repeat (first | exact Pick.here | apply Pick.there | apply Pick.far)) | apply Take.seg (by repeat (first | exact PickS.last | exact PickS.one | exact PickS.here | exact PickS.nil | apply PickS.there | apply PickS.far)) | exact Take.last (by repeat (first | exact PickS.last | exact PickS.one | exact PickS.here | exact PickS.nil | apply PickS.there | apply PickS.far)))), ⟨rfl, by simp only; omega, hrx5.done hx0⟩⟩
                ·
                  refine TL.cons rfl (V1.t (V1.move' (by (conv => lhs; whnf) <;> rfl)) ?_)
                  refine TL.no rfl ?_
                  refine TL.no rfl ?_
                  refine TL.no rfl ?_
                  refine TL.no rfl ?_
                  refine TL.no rfl ?_
                  refine TL.cons rfl (V1.t (V1.pick rfl (by (conv => lhs; whnf) <;> rfl)) ?_)
                  refine TL.nil ?_
                  refine T.cond_f rfl ?_
                  refine T.skip ?_
                  refine T.seq ?_
                  refine T.seq ?_
                  refine T.region ?_
                  refine TL.cons rfl (V1.t (V1.move' (by (conv => lhs; whnf) <;> rfl)) ?_)
                  refine TL.cons rfl (V1.t (V1.move' (by (conv => lhs; whnf) <;> rfl)) ?_)
                  refine TL.cons rfl (V1.t (V1.indexAddrS ty_105 sz_4 rfl rfl (by omega) (by have := (List.getElem?_eq_some_iff.1 hx0).1; omega)) ?_)
                  refine TL.cons rfl (V1.t (V1.load1 (v := .bool bi) one_4 rfl (bool_rd (by repeat (first | exact Find.here | assumption | apply Find.there | apply Find.far)) hbi)) ?_)
                  rcases Bool.eq_false_or_eq_true bi with e_bi | e_bi <;> subst e_bi
                  ·
                    have hrx_ : RndX (fun y => y ∈ kn) al hd0 i (.mk kx nx asx) 0 more hd := hrd.open0 (hbh.1 rfl)
                    refine TL.cons rfl (V1.t (V1.not rfl rfl) ?_)
                    refine TL.nil ?_
                    refine T.cond_f rfl ?_
                    refine T.skip ?_
                    refine T.seq ?_
                    refine T.live (l := [(6, _), (7, _), (9, _), (10, _), (11, _), (12, _)]) (.cons (by (conv => lhs; whnf) <;> rfl) (.cons (by (conv => lhs; whnf) <;> rfl) (.cons (by (conv => lhs; whnf) <;> rfl) (.cons (by (conv => lhs; whnf) <;> rfl) (.cons (by (conv => lhs; whnf) <;> rfl) (.cons (by (conv => lhs; whnf) <;> rfl) .nil)))))) (fun e_ => ?_)
                    refine T.region ?_
                    refine TL.cons rfl (V1.t (V1.assign' (by (conv => lhs; whnf) <;> rfl)) ?_)
                    refine TL.nil ?_
                    refine T.block ?_
                    refine T.loopL (σ := Nat × Bool × List Bool) (l0 := [(6, _), (7, _), (10, _), (11, _), (12, _)]) (fun x => [(18, .int .i64 (x.1 : Nat)), (9, .bool x.2.1)]) (fun x L => L = ⟨b12, 0, plcC (js) asx.length, asx.length⟩ :: ⟨b11, 0, [.int .i64 kx, .string (bstr nx), .slice ax asx.length cx], 3⟩ :: ⟨b7, 0, (x.2.2).map Value.bool, al.length⟩ :: (Z ++ (⟨b3, 0, [.int .i64 kt, .string (bstr nt), .slice at_ ast.length ct_], 3⟩ :: G)) ∧ x.1 ≤ asx.length ∧ RndX (fun y => y ∈ kn) al hd0 i (.mk kx nx asx) x.1 x.2.1 x.2.2) (fun x => asx.length - x.1) (0, more, hd) (.cons rfl (.cons rfl .nil)) (.cons (by (conv => lhs; whnf) <;> rfl) (.cons (by (conv => lhs; whnf) <;> rfl) (.cons (by (conv => lhs; whnf) <;> rfl) (.cons (by (conv => lhs; whnf) <;> rfl) (.cons (by (conv => lhs; whnf) <;> rfl) .nil))))) (by repeat (first | exact Take.nil | apply Take.one (by repeat (first | exact Pick.here | apply Pick.there | apply Pick.far)) | apply Take.seg (by repeat (first | exact PickS.last | exact PickS.one | exact PickS.here | exact PickS.nil | apply PickS.there | apply PickS.far)) | exact Take.last (by repeat (first | exact PickS.last | exact PickS.one | exact PickS.here | exact PickS.nil | apply PickS.there | apply PickS.far)))) (⟨rfl, Nat.zero_le _, hrx_⟩) ?_
                    rintro ⟨k, more2, hd2⟩ e_ L ⟨rfl, hk, hrx5⟩
                    simp only at hk hrx5
                    have hlen2 := hrx5.r.base.len
                    refine T.seq ?_
                    refine T.seq ?_
                    refine T.region ?_
                    refine TL.cons rfl (V1.t (V1.move' (by (conv => lhs; whnf) <;> rfl)) ?_)
                    refine TL.cons rfl (V1.t (V1.move' (by (conv => lhs; whnf) <;> rfl)) ?_)
                    refine TL.cons rfl (V1.t (V1.lenSl ty_84 rfl) ?_)
                    refine TL.cons rfl (T1.ltI_split rfl rfl (fun h34 => ?_) (fun h34 => ?_))
                    ·
                      have hkl : k < asx.length := by first | omega | (simp at h34; omega)
                      obtain ⟨j, y, hjc, hy0, hj⟩ := plc_get (m := asx.length) hpl (i := k) (by omega)
                      obtain ⟨j0, y0, hjc0, hy00, hj0⟩ := plc_get (m := asx.length) hpl (i := 0) (by omega)
                      obtain ⟨bk, hbk⟩ : ∃ b, hd2[j]? = some b := ⟨_, List.getElem?_eq_getElem (by rw [hlen2]; exact (List.getElem?_eq_some_iff.1 hj).1)⟩
                      obtain ⟨bz, hbz⟩ : ∃ b, hd2[j0]? = some b := ⟨_, List.getElem?_eq_getElem (by rw [hlen2]; exact (List.getElem?_eq_some_iff.1 hj0).1)⟩
                      have hbkh := had_b hnd hj hbk
                      have hbzh := had_b hnd hj0 hbz
                      refine TL.nil ?_
                      refine T.cond_t rfl ?_
                      refine T.skip ?_
                      refine T.seq ?_
                      refine T.block ?_
                      refine T.cut (σ := Bool) (l0 := [(6, _), (7, _), (9, _), (10, _), (11, _), (12, _), (18, _)]) (fun x => [(19, .bool x)]) (fun x L => L = ⟨b12, 0, plcC (js) asx.length, asx.length⟩ :: ⟨b11, 0, [.int .i64 kx, .string (bstr nx), .slice ax asx.length cx], 3⟩ :: ⟨b7, 0, (hd2).map Value.bool, al.length⟩ :: (Z ++ (⟨b3, 0, [.int .i64 kt, .string (bstr nt), .slice at_ ast.length ct_], 3⟩ :: G)) ∧ (x = true ↔ OpenK (Had al hd2) (.mk kx nx asx) k)) (.cons (by (conv => lhs; whnf) <;> rfl) (.cons (by (conv => lhs; whnf) <;> rfl) (.cons (by (conv => lhs; whnf) <;> rfl) (.cons (by (conv => lhs; whnf) <;> rfl) (.cons (by (conv => lhs; whnf) <;> rfl) (.cons (by (conv => lhs; whnf) <;> rfl) (.cons (by (conv => lhs; whnf) <;> rfl) .nil))))))) ?_ ?_
                      ·
                        refine T.region ?_
                        refine TL.cons rfl (V1.t (V1.fieldAddr fl_49_0 rfl) ?_)
                        refine TL.cons rfl (V1.t (V1.load1 one_3 rfl (.own (by repeat (first | exact Find.here | assumption | apply Find.there | apply Find.far)) (by rfl))) ?_)
                        refine TL.cons rfl (T1.eqI_split rfl rfl (fun g2 => ?_) (fun g2 => ?_))
                        ·
                          refine TL.cons rfl (V1.t (V1.move' (by (conv => lhs; whnf) <;> rfl)) ?_)
                          refine TL.no rfl ?_
                          refine TL.no rfl ?_
                          refine TL.no rfl ?_
                          refine TL.no rfl ?_
                          refine TL.no rfl ?_
                          refine TL.no rfl ?_
                          refine TL.no rfl ?_
                          refine TL.cons rfl (V1.t (V1.pick rfl (by (conv => lhs; whnf) <;> rfl)) ?_)
                          refine TL.cons rfl (V1.t (V1.move' (by (conv => lhs; whnf) <;> rfl)) ?_)
                          refine TL.no rfl ?_
                          refine TL.no rfl ?_
                          refine TL.no rfl ?_
                          refine TL.no rfl ?_
                          refine TL.no rfl ?_
                          refine TL.no rfl ?_
                          refine TL.no rfl ?_
                          refine TL.no rfl ?_
                          refine TL.no rfl ?_
                          refine TL.no rfl ?_
                          refine TL.no rfl ?_
                          refine TL.no rfl ?_
                          refine TL.no rfl ?_
                          refine TL.no rfl ?_
                          refine TL.no rfl ?_
                          refine TL.cons rfl (V1.t (V1.pick rfl (by (conv => lhs; whnf) <;> rfl)) ?_)
                          refine TL.cons rfl (V1.t (V1.assign' (by (conv => lhs; whnf) <;> rfl)) ?_)
                          refine TL.nil ?_
                          exact ⟨_, _, _, trivial, (.cons rfl .nil), (.cons rfl (.cons rfl (.cons rfl (.cons rfl (.cons rfl (.cons rfl (.cons rfl .nil))))))), (by repeat (first | exact Take.nil | apply Take.one (by repeat (first | exact Pick.here | apply Pick.there | apply Pick.far)) | apply Take.seg (by repeat (first | exact PickS.last | exact PickS.one | exact PickS.here | exact PickS.nil | apply PickS.there | apply PickS.far)) | exact Take.last (by repeat (first | exact PickS.last | exact PickS.one | exact PickS.here | exact PickS.nil | apply PickS.there | apply PickS.far)))), ⟨rfl, by unfold OpenK; simp_all [Tm.kind, Tm.args]⟩⟩
                        ·
                          refine TL.cons rfl (V1.t (V1.move' (by (conv => lhs; whnf) <;> rfl)) ?_)
                          refine TL.cons rfl (V1.t (V1.fieldAddr fl_49_0 rfl) ?_)
                          refine TL.cons rfl (V1.t (V1.load1 one_3 rfl (.own (by repeat (first | exact Find.here | assumption | apply Find.there | apply Find.far)) (by rfl))) ?_)
                          refine TL.cons rfl (T1.eqI_split rfl rfl (fun g8 => ?_) (fun g8 => ?_))
                          ·
                            refine TL.cons rfl (V1.t (V1.move' (by (conv => lhs; whnf) <;> rfl)) ?_)
                            refine TL.cons rfl (V1.t (V1.move' (by (conv => lhs; whnf) <;> rfl)) ?_)
                            refine TL.cons rfl (T1.eqI_split rfl rfl (fun gk => ?_) (fun gk => ?_))
                            ·
                              have gkn : k = 1 := by omega
                              refine TL.cons rfl (V1.t (V1.pick rfl (by (conv => lhs; whnf) <;> rfl)) ?_)
                              refine TL.cons rfl (V1.t (V1.pick rfl (by (conv => lhs; whnf) <;> rfl)) ?_)
                              refine TL.cons rfl (V1.t (V1.move' (by (conv => lhs; whnf) <;> rfl)) ?_)
                              refine TL.no rfl ?_
                              refine TL.no rfl ?_
                              refine TL.no rfl ?_
                              refine TL.no rfl ?_
                              refine TL.no rfl ?_
                              refine TL.no rfl ?_
                              refine TL.no rfl ?_
                              refine TL.no rfl ?_
                              refine TL.no rfl ?_
                              refine TL.no rfl ?_
                              refine TL.no rfl ?_
                              refine TL.no rfl ?_
                              refine TL.no rfl ?_
                              refine TL.no rfl ?_
                              refine TL.no rfl ?_
                              refine TL.cons rfl (V1.t (V1.pick rfl (by (conv => lhs; whnf) <;> rfl)) ?_)
                              refine TL.cons rfl (V1.t (V1.assign' (by (conv => lhs; whnf) <;> rfl)) ?_)
                              refine TL.nil ?_
                              exact ⟨_, _, _, trivial, (.cons rfl .nil), (.cons rfl (.cons rfl (.cons rfl (.cons rfl (.cons rfl (.cons rfl (.cons rfl .nil))))))), (by repeat (first | exact Take.nil | apply Take.one (by repeat (first | exact Pick.here | apply Pick.there | apply Pick.far)) | apply Take.seg (by repeat (first | exact PickS.last | exact PickS.one | exact PickS.here | exact PickS.nil | apply PickS.there | apply PickS.far)) | exact Take.last (by repeat (first | exact PickS.last | exact PickS.one | exact PickS.here | exact PickS.nil | apply PickS.there | apply PickS.far)))), ⟨rfl, by unfold OpenK; simp_all [Tm.kind, Tm.args]⟩⟩
                            ·
                              have gkn : k ≠ 1 := by omega
                              refine TL.cons rfl (V1.t (V1.pick rfl (by (conv => lhs; whnf) <;> rfl)) ?_)
                              refine TL.cons rfl (V1.t (V1.pick rfl (by (conv => lhs; whnf) <;> rfl)) ?_)
                              refine TL.cons rfl (V1.t (V1.move' (by (conv => lhs; whnf) <;> rfl)) ?_)
                              refine TL.cons rfl (V1.t (V1.fieldAddr fl_49_0 rfl) ?_)
                              refine TL.cons rfl (V1.t (V1.load1 one_3 rfl (.own (by repeat (first | exact Find.here | assumption | apply Find.there | apply Find.far)) (by rfl))) ?_)
                              refine TL.cons rfl (T1.eqI_split rfl rfl (fun g3 => ?_) (fun g3 => ?_))
                              ·
                                refine TL.cons rfl (V1.t (V1.move' (by (conv => lhs; whnf) <;> rfl)) ?_)
                                refine TL.cons rfl (V1.t (V1.move' (by (conv => lhs; whnf) <;> rfl)) ?_)
                                refine TL.cons rfl (T1.eqI_split rfl rfl (fun gk2 => ?_) (fun gk2 => ?_))
                                ·
                                  have gkn : k = 1 := by omega
                                  refine TL.cons rfl (V1.t (V1.pick rfl (by (conv => lhs; whnf) <;> rfl)) ?_)
                                  refine TL.cons rfl (V1.t (V1.move' (by (conv => lhs; whnf) <;> rfl)) ?_)
                                  refine TL.cons rfl (V1.t (V1.move' (by (conv => lhs; whnf) <;> rfl)) ?_)
                                  refine TL.cons rfl (V1.t (V1.move' (by (conv => lhs; whnf) <;> rfl)) ?_)
                                  refine TL.cons rfl (V1.t (V1.indexAddrS ty_84 sz_3 rfl rfl (by omega) (by omega)) ?_)
                                  refine TL.cons rfl (V1.t (V1.load1 (v := .int .i64 (j0 : Nat)) one_3 rfl (int_rd (k := 0) (by repeat (first | exact Find.here | assumption | apply Find.there | apply Find.far)) hjc0)) ?_)
                                  refine TL.cons rfl (V1.t (V1.indexAddrS ty_105 sz_4 rfl rfl (by omega) (by have := (List.getElem?_eq_some_iff.1 hj0).1; omega)) ?_)
                                  refine TL.cons rfl (V1.t (V1.load1 (v := .bool bz) one_4 rfl (bool_rd (by repeat (first | exact Find.here | assumption | apply Find.there | apply Find.far)) hbz)) ?_)
                                  rcases Bool.eq_false_or_eq_true bz with e_bz | e_bz <;> subst e_bz
                                  ·
                                    refine TL.cons rfl (V1.t (V1.pick rfl (by (conv => lhs; whnf) <;> rfl)) ?_)
                                    refine TL.cons rfl (V1.t (V1.pick rfl (by (conv => lhs; whnf) <;> rfl)) ?_)
                                    refine TL.cons rfl (V1.t (V1.assign' (by (conv => lhs; whnf) <;> rfl)) ?_)
                                    refine TL.nil ?_
                                    exact ⟨_, _, _, trivial, (.cons rfl .nil), (.cons rfl (.cons rfl (.cons rfl (.cons rfl (.cons rfl (.cons rfl (.cons rfl .nil))))))), (by repeat (first | exact Take.nil | apply Take.one (by repeat (first | exact Pick.here | apply Pick.there | apply Pick.far)) | apply Take.seg (by repeat (first | exact PickS.last | exact PickS.one | exact PickS.here | exact PickS.nil | apply PickS.there | apply PickS.far)) | exact Take.last (by repeat (first | exact PickS.last | exact PickS.one | exact PickS.here | exact PickS.nil | apply PickS.there | apply PickS.far)))), ⟨rfl, by unfold OpenK; simp_all [Tm.kind, Tm.args]⟩⟩
                                  ·
                                    refine TL.cons rfl (V1.t (V1.pick rfl (by (conv => lhs; whnf) <;> rfl)) ?_)
                                    refine TL.cons rfl (V1.t (V1.pick rfl (by (conv => lhs; whnf) <;> rfl)) ?_)
                                    refine TL.cons rfl (V1.t (V1.assign' (by (conv => lhs; whnf) <;> rfl)) ?_)
                                    refine TL.nil ?_
                                    exact ⟨_, _, _, trivial, (.cons rfl .nil), (.cons rfl (.cons rfl (.cons rfl (.cons rfl (.cons rfl (.cons rfl (.cons rfl .nil))))))), (by repeat (first | exact Take.nil | apply Take.one (by repeat (first | exact Pick.here | apply Pick.there | apply Pick.far)) | apply Take.seg (by repeat (first | exact PickS.last | exact PickS.one | exact PickS.here | exact PickS.nil | apply PickS.there | apply PickS.far)) | exact Take.last (by repeat (first | exact PickS.last | exact PickS.one | exact PickS.here | exact PickS.nil | apply PickS.there | apply PickS.far)))), ⟨rfl, by unfold OpenK; simp_all [Tm.kind, Tm.args]⟩⟩
                                ·
                                  have gkn : k ≠ 1 := by omega
                                  refine TL.cons rfl (V1.t (V1.pick rfl (by (conv => lhs; whnf) <;> rfl)) ?_)
                                  refine TL.cons rfl (V1.t (V1.move' (by (conv => lhs; whnf) <;> rfl)) ?_)
                                  refine TL.no rfl ?_
                                  refine TL.no rfl ?_
                                  refine TL.no rfl ?_
                                  refine TL.no rfl ?_
                                  refine TL.no rfl ?_
                                  refine TL.no rfl ?_
                                  refine TL.cons rfl (V1.t (V1.pick rfl (by (conv => lhs; whnf) <;> rfl)) ?_)
                                  refine TL.cons rfl (V1.t (V1.pick rfl (by (conv => lhs; whnf) <;> rfl)) ?_)
                                  refine TL.cons rfl (V1.t (V1.assign' (by (conv => lhs; whnf) <;> rfl)) ?_)
                                  refine TL.nil ?_
                                  exact ⟨_, _, _, trivial, (.cons rfl .nil), (.cons rfl (.cons rfl (.cons rfl (.cons rfl (.cons rfl (.cons rfl (.cons rfl .nil))))))), (by repeat (first | exact Take.nil | apply Take.one (by repeat (first | exact Pick.here | apply Pick.there | apply Pick.far)) | apply Take.seg (by repeat (first | exact PickS.last | exact PickS.one | exact PickS.here | exact PickS.nil | apply PickS.there | apply PickS.far)) | exact Take.last (by repeat (first | exact PickS.last | exact PickS.one | exact PickS.here | exact PickS.nil | apply PickS.there | apply PickS.far)))), ⟨rfl, by unfold OpenK; simp_all [Tm.kind, Tm.args]⟩⟩
                              ·
                                refine TL.cons rfl (V1.t (V1.move' (by (conv => lhs; whnf) <;> rfl)) ?_)
                                refine TL.no rfl ?_
                                refine TL.no rfl ?_
                                refine TL.cons rfl (V1.t (V1.pick rfl (by (conv => lhs; whnf) <;> rfl)) ?_)
                                refine TL.cons rfl (V1.t (V1.move' (by (conv => lhs; whnf) <;> rfl)) ?_)
                                refine TL.no rfl ?_
                                refine TL.no rfl ?_
                                refine TL.no rfl ?_
                                refine TL.no rfl ?_
                                refine TL.no rfl ?_
                                refine TL.no rfl ?_
                                refine TL.cons rfl (V1.t (V1.pick rfl (by (conv => lhs; whnf) <;> rfl)) ?_)
                                refine TL.cons rfl (V1.t (V1.pick rfl (by (conv => lhs; whnf) <;> rfl)) ?_)
                                refine TL.cons rfl (V1.t (V1.assign' (by (conv => lhs; whnf) <;> rfl)) ?_)
                                refine TL.nil ?_
                                exact ⟨_, _, _, trivial, (.cons rfl .nil), (.cons rfl (.cons rfl (.cons rfl (.cons rfl (.cons rfl (.cons rfl (.cons rfl .nil))))))), (by repeat (first | exact Take.nil | apply Take.one (by repeat (first | exact Pick.here | apply Pick.there | apply Pick.far)) | apply Take.seg (by repeat (first | exact PickS.last | exact PickS.one | exact PickS.here | exact PickS.nil | apply PickS.there | apply PickS.far)) | exact Take.last (by repeat (first | exact PickS.last | exact PickS.one | exact PickS.here | exact PickS.nil | apply PickS.there | apply PickS.far)))), ⟨rfl, by unfold OpenK; simp_all [Tm.kind, Tm.args]⟩⟩
                          ·
                            refine TL.cons rfl (V1.t (V1.move' (by (conv => lhs; whnf) <;> rfl)) ?_)
                            refine TL.no rfl ?_
                            refine TL.no rfl ?_
                            refine TL.cons rfl (V1.t (V1.pick rfl (by (conv => lhs; whnf) <;> rfl)) ?_)
                            refine TL.cons rfl (V1.t (V1.pick rfl (by (conv => lhs; whnf) <;> rfl)) ?_)
                            refine TL.cons rfl (V1.t (V1.move' (by (conv => lhs; whnf) <;> rfl)) ?_)
                            refine TL.cons rfl (V1.t (V1.fieldAddr fl_49_0 rfl) ?_)
                            refine TL.cons rfl (V1.t (V1.load1 one_3 rfl (.own (by repeat (first | exact Find.here | assumption | apply Find.there | apply Find.far)) (by rfl))) ?_)
                            refine TL.cons rfl (T1.eqI_split rfl rfl (fun g3 => ?_) (fun g3 => ?_))
                            ·
                              refine TL.cons rfl (V1.t (V1.move' (by (conv => lhs; whnf) <;> rfl)) ?_)
                              refine TL.cons rfl (V1.t (V1.move' (by (conv => lhs; whnf) <;> rfl)) ?_)
                              refine TL.cons rfl (T1.eqI_split rfl rfl (fun gk2 => ?_) (fun gk2 => ?_))
                              ·
                                have gkn : k = 1 := by omega
                                refine TL.cons rfl (V1.t (V1.pick rfl (by (conv => lhs; whnf) <;> rfl)) ?_)
                                refine TL.cons rfl (V1.t (V1.move' (by (conv => lhs; whnf) <;> rfl)) ?_)
                                refine TL.cons rfl (V1.t (V1.move' (by (conv => lhs; whnf) <;> rfl)) ?_)
                                refine TL.cons rfl (V1.t (V1.move' (by (conv => lhs; whnf) <;> rfl)) ?_)
                                refine TL.cons rfl (V1.t (V1.indexAddrS ty_84 sz_3 rfl rfl (by omega) (by omega)) ?_)
                                refine TL.cons rfl (V1.t (V1.load1 (v := .int .i64 (j0 : Nat)) one_3 rfl (int_rd (k := 0) (by repeat (first | exact Find.here | assumption | apply Find.there | apply Find.far)) hjc0)) ?_)
                                refine TL.cons rfl (V1.t (V1.indexAddrS ty_105 sz_4 rfl rfl (by omega) (by have := (List.getElem?_eq_some_iff.1 hj0).1; omega)) ?_)
                                refine TL.cons rfl (V1.t (V1.load1 (v := .bool bz) one_4 rfl (bool_rd (by repeat (first | exact Find.here | assumption | apply Find.there | apply Find.far)) hbz)) ?_)
                                rcases Bool.eq_false_or_eq_true bz with e_bz | e_bz <;> subst e_bz
                                ·
                                  refine TL.cons rfl (V1.t (V1.pick rfl (by (conv => lhs; whnf) <;> rfl)) ?_)
                                  refine TL.cons rfl (V1.t (V1.pick rfl (by (conv => lhs; whnf) <;> rfl)) ?_)
                                  refine TL.cons rfl (V1.t (V1.assign' (by (conv => lhs; whnf) <;> rfl)) ?_)
                                  refine TL.nil ?_
                                  exact ⟨_, _, _, trivial, (.cons rfl .nil), (.cons rfl (.cons rfl (.cons rfl (.cons rfl (.cons rfl (.cons rfl (.cons rfl .nil))))))), (by repeat (first | exact Take.nil | apply Take.one (by repeat (first | exact Pick.here | apply Pick.there | apply Pick.far)) | apply Take.seg (by repeat (first | exact PickS.last | exact PickS.one | exact PickS.here | exact PickS.nil | apply PickS.there | apply PickS.far)) | exact Take.last (by repeat (first | exact PickS.last | exact PickS.one | exact PickS.here | exact PickS.nil | apply PickS.there | apply PickS.far)))), ⟨rfl, by unfold OpenK; simp_all [Tm.kind, Tm.args]⟩⟩
                                ·
                                  refine TL.cons rfl (V1.t (V1.pick rfl (by (conv => lhs; whnf) <;> rfl)) ?_)
                                  refine TL.cons rfl (V1.t (V1.pick rfl (by (conv => lhs; whnf) <;> rfl)) ?_)
                                  refine TL.cons rfl (V1.t (V1.assign' (by (conv => lhs; whnf) <;> rfl)) ?_)
                                  refine TL.nil ?_
                                  exact ⟨_, _, _, trivial, (.cons rfl .nil), (.cons rfl (.cons rfl (.cons rfl (.cons rfl (.cons rfl (.cons rfl (.cons rfl .nil))))))), (by repeat (first | exact Take.nil | apply Take.one (by repeat (first | exact Pick.here | apply Pick.there | apply Pick.far)) | apply Take.seg (by repeat (first | exact PickS.last | exact PickS.one | exact PickS.here | exact PickS.nil | apply PickS.there | apply PickS.far)) | exact Take.last (by repeat (first | exact PickS.last | exact PickS.one | exact PickS.here | exact PickS.nil | apply PickS.there | apply PickS.far)))), ⟨rfl, by unfold OpenK; simp_all [Tm.kind, Tm.args]⟩⟩
                              ·
                                have gkn : k ≠ 1 := by omega
                                refine TL.cons rfl (V1.t (V1.pick rfl (by (conv => lhs; whnf) <;> rfl)) ?_)
                                refine TL.cons rfl (V1.t (V1.move' (by (conv => lhs; whnf) <;> rfl)) ?_)
                                refine TL.no rfl ?_
                                refine TL.no rfl ?_
                                refine TL.no rfl ?_
                                refine TL.no rfl ?_
                                refine TL.no rfl ?_
                                refine TL.no rfl ?_
                                refine TL.cons rfl (V1.t (V1.pick rfl (by (conv => lhs; whnf) <;> rfl)) ?_)
                                refine TL.cons rfl (V1.t (V1.pick rfl (by (conv => lhs; whnf) <;> rfl)) ?_)
                                refine TL.cons rfl (V1.t (V1.assign' (by (conv => lhs; whnf) <;> rfl)) ?_)
                                refine TL.nil ?_
                                exact ⟨_, _, _, trivial, (.cons rfl .nil), (.cons rfl (.cons rfl (.cons rfl (.cons rfl (.cons rfl (.cons rfl (.cons rfl .nil))))))), (by repeat (first | exact Take.nil | apply Take.one (by repeat (first | exact Pick.here | apply Pick.there | apply Pick.far)) | apply Take.seg (by repeat (first | exact PickS.last | exact PickS.one | exact PickS.here | exact PickS.nil | apply PickS.there | apply PickS.far)) | exact Take.last (by repeat (first | exact PickS.last | exact PickS.one | exact PickS.here | exact PickS.nil | apply PickS.there | apply PickS.far)))), ⟨rfl, by unfold OpenK; simp_all [Tm.kind, Tm.args]⟩⟩
                            ·
                              refine TL.cons rfl (V1.t (V1.move' (by (conv => lhs; whnf) <;> rfl)) ?_)
                              refine TL.no rfl ?_
                              refine TL.no rfl ?_
                              refine TL.cons rfl (V1.t (V1.pick rfl (by (conv => lhs; whnf) <;> rfl)) ?_)
                              refine TL.cons rfl (V1.t (V1.move' (by (conv => lhs; whnf) <;> rfl)) ?_)
                              refine TL.no rfl ?_
                              refine TL.no rfl ?_
                              refine TL.no rfl ?_
                              refine TL.no rfl ?_
                              refine TL.no rfl ?_
                              refine TL.no rfl ?_
                              refine TL.cons rfl (V1.t (V1.pick rfl (by (conv => lhs; whnf) <;> rfl)) ?_)
                              refine TL.cons rfl (V1.t (V1.pick rfl (by (conv => lhs; whnf) <;> rfl)) ?_)
                              refine TL.cons rfl (V1.t (V1.assign' (by (conv => lhs; whnf) <;> rfl)) ?_)
                              refine TL.nil ?_
                              exact ⟨_, _, _, trivial, (.cons rfl .nil), (.cons rfl (.cons rfl (.cons rfl (.cons rfl (.cons rfl (.cons rfl (.cons rfl .nil))))))), (by repeat (first | exact Take.nil | apply Take.one (by repeat (first | exact Pick.here | apply Pick.there | apply Pick.far)) | apply Take.seg (by repeat (first | exact PickS.last | exact PickS.one | exact PickS.here | exact PickS.nil | apply PickS.there | apply PickS.far)) | exact Take.last (by repeat (first | exact PickS.last | exact PickS.one | exact PickS.here | exact PickS.nil | apply PickS.there | apply PickS.far)))), ⟨rfl, by unfold OpenK; simp_all [Tm.kind, Tm.args]⟩⟩
                      ·
                        rintro o2 e_ L ⟨rfl, ho2⟩
                        refine T.seq ?_
                        refine T.region ?_
                        refine TL.cons rfl (V1.t (V1.move' (by (conv => lhs; whnf) <;> rfl)) ?_)
                        rcases Bool.eq_false_or_eq_true o2 with e_o | e_o <;> subst e_o
                        ·
                          refine TL.cons rfl (V1.t (V1.move' (by (conv => lhs; whnf) <;> rfl)) ?_)
                          refine TL.cons rfl (V1.t (V1.move' (by (conv => lhs; whnf) <;> rfl)) ?_)
                          refine TL.cons rfl (V1.t (V1.move' (by (conv => lhs; whnf) <;> rfl)) ?_)
                          refine TL.cons rfl (V1.t (V1.move' (by (conv => lhs; whnf) <;> rfl)) ?_)
                          refine TL.cons rfl (V1.t (V1.indexAddrS ty_84 sz_3 rfl rfl (by omega) (by omega)) ?_)
                          refine TL.cons rfl (V1.t (V1.load1 (v := .int .i64 (j : Nat)) one_3 rfl (int_rd (by repeat (first | exact Find.here | assumption | apply Find.there | apply Find.far)) hjc)) ?_)
                          refine TL.cons rfl (V1.t (V1.indexAddrS ty_105 sz_4 rfl rfl (by omega) (by have := (List.getElem?_eq_some_iff.1 hj).1; omega)) ?_)
                          refine TL.cons rfl (V1.t (V1.load1 (v := .bool bk) one_4 rfl (bool_rd (by repeat (first | exact Find.here | assumption | apply Find.there | apply Find.far)) hbk)) ?_)
                          rcases Bool.eq_false_or_eq_true bk with e_bk | e_bk <;> subst e_bk
                          ·
                            refine TL.cons rfl (V1.t (V1.not rfl rfl) ?_)
                            refine TL.cons rfl (V1.t (V1.pick rfl (by (conv => lhs; whnf) <;> rfl)) ?_)
                            refine TL.nil ?_
                            refine T.cond_f rfl ?_
                            refine T.skip ?_
                            refine T.live (l := [(6, _), (7, _), (9, _), (10, _), (11, _), (12, _), (18, _)]) (.cons (by (conv => lhs; whnf) <;> rfl) (.cons (by (conv => lhs; whnf) <;> rfl) (.cons (by (conv => lhs; whnf) <;> rfl) (.cons (by (conv => lhs; whnf) <;> rfl) (.cons (by (conv => lhs; whnf) <;> rfl) (.cons (by (conv => lhs; whnf) <;> rfl) (.cons (by (conv => lhs; whnf) <;> rfl) .nil))))))) (fun e_ => ?_)
                            refine T.region ?_
                            refine TL.cons rfl (V1.t (V1.move' (by (conv => lhs; whnf) <;> rfl)) ?_)
                            refine TL.cons rfl (V1.t (V1.add (c := ((k + 1 : Nat) : Int)) rfl rfl (by rw [wrap_i64 _ (by omega) (by omega)]; omega)) ?_)
                            refine TL.cons rfl (V1.t (V1.assign' (by (conv => lhs; whnf) <;> rfl)) ?_)
                            refine TL.nil ?_
                            exact ⟨(k + 1, more2, hd2), ⟨b12, 0, plcC (js) asx.length, asx.length⟩ :: ⟨b11, 0, [.int .i64 kx, .string (bstr nx), .slice ax asx.length cx], 3⟩ :: ⟨b7, 0, (hd2).map Value.bool, al.length⟩ :: (Z ++ (⟨b3, 0, [.int .i64 kt, .string (bstr nt), .slice at_ ast.length ct_], 3⟩ :: G)), _, (by simp only; omega), (.cons rfl (.cons rfl .nil)), (.cons rfl (.cons rfl (.cons rfl (.cons rfl (.cons rfl .nil))))), (by repeat (first | exact Take.nil | apply Take.one (by repeat (first | exact Pick.here | apply Pick.there | apply Pick.far)) | apply Take.seg (by repeat (first | exact PickS.last | exact PickS.one | exact PickS.here | exact PickS.nil | apply PickS.there | apply PickS.far)) | exact Take.last (by repeat (first | exact PickS.last | exact PickS.one | exact PickS.here | exact PickS.nil | apply PickS.there | apply PickS.far)))), ⟨rfl, by simp only; omega, hrx5.skip (fun a ha ho => (by have e := Option.some.inj ((show asx[k]? = some a from ha).symm.trans hy0); subst e; exact hbkh.1 rfl))⟩⟩
                          ·
                            refine TL.cons rfl (V1.t (V1.not rfl rfl) ?_)
                            refine TL.cons rfl (V1.t (V1.pick rfl (by (conv => lhs; whnf) <;> rfl)) ?_)
                            refine TL.nil ?_
                            refine T.cond_t rfl ?_
                            refine T.seq ?_
                            refine T.live (l := [(6, _), (7, _), (10, _), (11, _), (12, _), (18, _)]) (.cons (by (conv => lhs; whnf) <;> rfl) (.cons (by (conv => lhs; whnf) <;> rfl) (.cons (by (conv => lhs; whnf) <;> rfl) (.cons (by (conv => lhs; whnf) <;> rfl) (.cons (by (conv => lhs; whnf) <;> rfl) (.cons (by (conv => lhs; whnf) <;> rfl) .nil)))))) (fun e_ => ?_)
                            refine T.region ?_
                            refine TL.cons rfl (V1.t (V1.move' (by (conv => lhs; whnf) <;> rfl)) ?_)
                            refine TL.cons rfl (V1.t (V1.move' (by (conv => lhs; whnf) <;> rfl)) ?_)
                            refine TL.cons rfl (V1.t (V1.move' (by (conv => lhs; whnf) <;> rfl)) ?_)
                            refine TL.cons rfl (V1.t (V1.indexAddrS ty_84 sz_3 rfl rfl (by omega) (by omega)) ?_)
                            refine TL.cons rfl (V1.t (V1.load1 (v := .int .i64 (j : Nat)) one_3 rfl (int_rd (by repeat (first | exact Find.here | assumption | apply Find.there | apply Find.far)) hjc)) ?_)
                            refine TL.cons rfl (V1.t (V1.indexAddrS ty_105 sz_4 rfl rfl (by omega) (by have := (List.getElem?_eq_some_iff.1 hj).1; omega)) ?_)
                            refine TL.cons rfl (T1.storeE (o := 0 + j * 1) (off := 0) (size := al.length) (cells := (hd2).map Value.bool) (cells' := ((hd2).set j true).map Value.bool) (v := .bool true) rfl rfl sz_4 rfl (by rw [show 0 + j * 1 - 0 = j by omega]; exact set_map) (by repeat (first | exact Sub.one | apply Sub.there | apply Sub.far)) (Nat.zero_le _) (by rw [List.length_map, hlen2]; have := (List.getElem?_eq_some_iff.1 hj).1; omega) ?_)
                            refine TL.nil ?_
                            refine T.region ?_
                            refine TL.cons rfl (V1.t (V1.assign' (by (conv => lhs; whnf) <;> rfl)) ?_)
                            refine TL.nil ?_
                            refine T.region ?_
                            refine TL.cons rfl (V1.t (V1.move' (by (conv => lhs; whnf) <;> rfl)) ?_)
                            refine TL.cons rfl (V1.t (V1.add (c := ((k + 1 : Nat) : Int)) rfl rfl (by rw [wrap_i64 _ (by omega) (by omega)]; omega)) ?_)
                            refine TL.cons rfl (V1.t (V1.assign' (by (conv => lhs; whnf) <;> rfl)) ?_)
                            refine TL.nil ?_
                            exact ⟨(k + 1, true, hd2.set j true), ⟨b12, 0, plcC (js) asx.length, asx.length⟩ :: ⟨b11, 0, [.int .i64 kx, .string (bstr nx), .slice ax asx.length cx], 3⟩ :: ⟨b7, 0, (hd2.set j true).map Value.bool, al.length⟩ :: (Z ++ (⟨b3, 0, [.int .i64 kt, .string (bstr nt), .slice at_ ast.length ct_], 3⟩ :: G)), _, (by simp only; omega), (.cons rfl (.cons rfl .nil)), (.cons rfl (.cons rfl (.cons rfl (.cons rfl (.cons rfl .nil))))), (by repeat (first | exact Take.nil | apply Take.one (by repeat (first | exact Pick.here | apply Pick.there | apply Pick.far)) | apply Take.seg (by repeat (first | exact PickS.last | exact PickS.one | exact PickS.here | exact PickS.nil | apply PickS.there | apply PickS.far)) | exact Take.last (by repeat (first | exact PickS.last | exact PickS.one | exact PickS.here | exact PickS.nil | apply PickS.there | apply PickS.far)))), ⟨rfl, by simp only; omega, hrx5.put hshx hy0 (ho2.1 rfl) hj hbk⟩⟩
                        ·
                          refine TL.cons rfl (V1.t (V1.move' (by (conv => lhs; whnf) <;> rfl)) ?_)
                          refine TL.no rfl ?_
                          refine TL.no rfl ?_
                          refine TL.no rfl ?_
                          refine TL.no rfl ?_
                          refine TL.no rfl ?_
                          refine TL.no rfl ?_
                          refine TL.no rfl ?_
                          refine TL.no rfl ?_
                          refine TL.cons rfl (V1.t (V1.pick rfl (by (conv => lhs; whnf) <;> rfl)) ?_)
                          refine TL.nil ?_
                          refine T.cond_f rfl ?_
                          refine T.skip ?_
                          refine T.live (l := [(6, _), (7, _), (9, _), (10, _), (11, _), (12, _), (18, _)]) (.cons (by (conv => lhs; whnf) <;> rfl) (.cons (by (conv => lhs; whnf) <;> rfl) (.cons (by (conv => lhs; whnf) <;> rfl) (.cons (by (conv => lhs; whnf) <;> rfl) (.cons (by (conv => lhs; whnf) <;> rfl) (.cons (by (conv => lhs; whnf) <;> rfl) (.cons (by (conv => lhs; whnf) <;> rfl) .nil))))))) (fun e_ => ?_)
                          refine T.region ?_
                          refine TL.cons rfl (V1.t (V1.move' (by (conv => lhs; whnf) <;> rfl)) ?_)
                          refine TL.cons rfl (V1.t (V1.add (c := ((k + 1 : Nat) : Int)) rfl rfl (by rw [wrap_i64 _ (by omega) (by omega)]; omega)) ?_)
                          refine TL.cons rfl (V1.t (V1.assign' (by (conv => lhs; whnf) <;> rfl)) ?_)
                          refine TL.nil ?_
                          exact ⟨(k + 1, more2, hd2), ⟨b12, 0, plcC (js) asx.length, asx.length⟩ :: ⟨b11, 0, [.int .i64 kx, .string (bstr nx), .slice ax asx.length cx], 3⟩ :: ⟨b7, 0, (hd2).map Value.bool, al.length⟩ :: (Z ++ (⟨b3, 0, [.int .i64 kt, .string (bstr nt), .slice at_ ast.length ct_], 3⟩ :: G)), _, (by simp only; omega), (.cons rfl (.cons rfl .nil)), (.cons rfl (.cons rfl (.cons rfl (.cons rfl (.cons rfl .nil))))), (by repeat (first | exact Take.nil | apply Take.one (by repeat (first | exact Pick.here | apply Pick.there | apply Pick.far)) | apply Take.seg (by repeat (first | exact PickS.last | exact PickS.one | exact PickS.here | exact PickS.nil | apply PickS.there | apply PickS.far)) | exact Take.last (by repeat (first | exact PickS.last | exact PickS.one | exact PickS.here | exact PickS.nil | apply PickS.there | apply PickS.far)))), ⟨rfl, by simp only; omega, hrx5.skip (fun a ha ho => absurd (ho2.2 ho) (by decide))⟩⟩
                    ·
                      obtain rfl : k = asx.length := by first | omega | (simp at h34; omega)
                      refine TL.nil ?_
                      refine T.cond_f rfl ?_
                      refine T.exit ?_
                      refine T.region ?_
                      refine TL.cons rfl (V1.t (V1.move' (by (conv => lhs; whnf) <;> rfl)) ?_)
                      refine TL.cons rfl (V1.t (V1.add rfl rfl (wrap_i64 _ (by omega) (by omega))) ?_)
                      refine TL.cons rfl (V1.t (V1.assign' (by (conv => lhs; whnf) <;> rfl)) ?_)
                      refine TL.nil ?_
                      exact ⟨(i + 1, more2, hd2), ⟨b7, 0, (hd2).map Value.bool, al.length⟩ :: (Z ++ (⟨b3, 0, [.int .i64 kt, .string (bstr nt), .slice at_ ast.length ct_], 3⟩ :: G)), _, (by simp only; omega), (.cons rfl (.cons rfl .nil)), (.cons rfl (.cons rfl .nil)), (by repeat (first | exact Take.nil | apply Take.one (by repeat (first | exact Pick.here | apply Pick.there | apply Pick.far)) | apply Take.seg (by repeat (first | exact PickS.last | exact PickS.one | exact PickS.here | exact PickS.nil | apply PickS.there | apply PickS.far)) | exact Take.last (by repeat (first | exact PickS.last | exact PickS.one | exact PickS.here | exact PickS.nil | apply PickS.there | apply PickS.far)))), ⟨rfl, by simp only; omega, hrx5.done hx0⟩⟩
                  ·
                    refine TL.cons rfl (V1.t (V1.not rfl rfl) ?_)
                    refine TL.nil ?_
                    refine T.cond_t rfl ?_
                    refine T.exit ?_
                    refine T.live (l := [(6, _), (7, _), (9, _), (10, _)]) (.cons (by (conv => lhs; whnf) <;> rfl) (.cons (by (conv => lhs; whnf) <;> rfl) (.cons (by (conv => lhs; whnf) <;> rfl) (.cons (by (conv => lhs; whnf) <;> rfl) .nil)))) (fun e_ => ?_)
                    refine T.region ?_
                    refine TL.cons rfl (V1.t (V1.move' (by (conv => lhs; whnf) <;> rfl)) ?_)
                    refine TL.cons rfl (V1.t (V1.add rfl rfl (wrap_i64 _ (by omega) (by omega))) ?_)
                    refine TL.cons rfl (V1.t (V1.assign' (by (conv => lhs; whnf) <;> rfl)) ?_)
                    refine TL.nil ?_
                    exact ⟨(i + 1, more, hd), ⟨b7, 0, (hd).map Value.bool, al.length⟩ :: (Z ++ (⟨b3, 0, [.int .i64 kt, .string (bstr nt), .slice at_ ast.length ct_], 3⟩ :: G)), _, (by simp only; omega), (.cons rfl (.cons rfl .nil)), (.cons rfl (.cons rfl .nil)), (by repeat (first | exact Take.nil | apply Take.one (by repeat (first | exact Pick.here | apply Pick.there | apply Pick.far)) | apply Take.seg (by repeat (first | exact PickS.last | exact PickS.one | exact PickS.here | exact PickS.nil | apply PickS.there | apply PickS.far)) | exact Take.last (by repeat (first | exact PickS.last | exact PickS.one | exact PickS.here | exact PickS.nil | apply PickS.there | apply PickS.far)))), ⟨rfl, by simp only; omega, hrd.none hx0 (fun h => absurd (hbh.2 h) (by decide)) (fun h => absurd (hw2.2 h) (by decide))⟩⟩
        ·
          try simp only at h12
          obtain rfl : i = al.length := by omega
          refine TL.nil ?_
          refine T.cond_f rfl ?_
          refine T.exit ?_
          exact ⟨(more, hd), ⟨b7, 0, (hd).map Value.bool, al.length⟩ :: (Z ++ (⟨b3, 0, [.int .i64 kt, .string (bstr nt), .slice at_ ast.length ct_], 3⟩ :: G)), _, (by have h1 := hrd.le; have h2 := cnt_le hd; rw [hrd.base.len] at h2; simp only; cases more; (simp; omega); (have h3 := hrd.yes rfl; simp; omega)), (.cons rfl .nil), (.cons rfl (.cons rfl .nil)), (by repeat (first | exact Take.nil | apply Take.one (by repeat (first | exact Pick.here | apply Pick.there | apply Pick.far)) | apply Take.seg (by repeat (first | exact PickS.last | exact PickS.one | exact PickS.here | exact PickS.nil | apply PickS.there | apply PickS.far)) | exact Take.last (by repeat (first | exact PickS.last | exact PickS.one | exact PickS.here | exact PickS.nil | apply PickS.there | apply PickS.far)))), ⟨rfl, hrd.base, fun hm => by simp only at hm; subst hm; have e := (hrd.no rfl).1; subst e; exact hrd⟩⟩
      ·
        have hrf := hfin rfl
        refine TL.nil ?_
        refine T.cond_f rfl ?_
        refine T.exit ?_
        refine T.seq ?_
        refine T.region ?_
        refine TL.cons rfl (V1.t (V1.assign' (by (conv => lhs; whnf) <;> rfl)) ?_)
        refine TL.nil ?_
        refine T.seq ?_
        refine T.seq ?_
        refine T.region ?_
        refine TL.cons rfl (V1.t (V1.assign' (by (conv => lhs; whnf) <;> rfl)) ?_)
        refine TL.nil ?_
        refine T.block ?_
        refine T.loopL (σ := Nat × Value) (l0 := [(6, _), (7, _)]) (fun x => [(21, .int .i64 (x.1 : Nat)), (20, x.2)]) (fun x L => ∃ Lo xo ou, L = Lo ++ (⟨b7, 0, (hd0).map Value.bool, al.length⟩ :: (Z ++ (⟨b3, 0, [.int .i64 kt, .string (bstr nt), .slice at_ ast.length ct_], 3⟩ :: G))) ∧ x.1 ≤ al.length ∧ SlG (some 49) x.2 xo 3 Lo ∧ TmsR w0 (Z ++ Ps) ou xo ∧ OutI al hd0 x.1 ou) (fun x => al.length - x.1) (0, .slice none 0 0) (.cons rfl (.cons rfl .nil)) (.cons (by (conv => lhs; whnf) <;> rfl) (.cons (by (conv => lhs; whnf) <;> rfl) .nil)) (by repeat (first | exact Take.nil | apply Take.one (by repeat (first | exact Pick.here | apply Pick.there | apply Pick.far)) | apply Take.seg (by repeat (first | exact PickS.last | exact PickS.one | exact PickS.here | exact PickS.nil | apply PickS.there | apply PickS.far)) | exact Take.last (by repeat (first | exact PickS.last | exact PickS.one | exact PickS.here | exact PickS.nil | apply PickS.there | apply PickS.far)))) (⟨[], [], [], rfl, Nat.zero_le _, SlG.nil, TmsR.nil, OutI.start⟩) ?_
        rintro ⟨i, so⟩ e_ L ⟨Lo, xo, ou, rfl, hi, hslo, hxo, hou⟩
        simp only at hi hslo hou
        have hlen := hdi.len
        have hou1 := hou.1
        refine T.seq ?_
        refine T.seq ?_
        refine T.region ?_
        refine TL.cons rfl (V1.t (V1.move' (by (conv => lhs; whnf) <;> rfl)) ?_)
        refine TL.cons rfl (V1.t (V1.move' (by (conv => lhs; whnf) <;> rfl)) ?_)
        refine TL.cons rfl (V1.t (V1.lenSl ty_47 rfl) ?_)
        refine TL.cons rfl (T1.ltI_split rfl rfl (fun h42 => ?_) (fun h42 => ?_))
        ·
          try simp only at h42
          obtain ⟨x, hx0⟩ : ∃ x, al[i]? = some x := ⟨_, List.getElem?_eq_getElem (by omega)⟩
          obtain ⟨bx, ox, cs_, rfl, hx, hrdx⟩ := hra.term hta hx0 P
          obtain ⟨kx, nx, asx⟩ := x
          obtain ⟨ax, cx, vsx, rfl, hrx, hlx, htx⟩ := hx.inv
          try simp only at *
          obtain ⟨b, hb⟩ : ∃ b, hd0[i]? = some b := ⟨_, List.getElem?_eq_getElem (by omega)⟩
          refine TL.nil ?_
          refine T.cond_t rfl ?_
          refine T.skip ?_
          refine T.seq ?_
          refine T.block ?_
          refine T.seq ?_
          refine T.region ?_
          refine TL.cons rfl (V1.t (V1.move' (by (conv => lhs; whnf) <;> rfl)) ?_)
          refine TL.cons rfl (V1.t (V1.move' (by (conv => lhs; whnf) <;> rfl)) ?_)
          refine TL.cons rfl (V1.t (V1.indexAddrS ty_105 sz_4 rfl rfl (by omega) (by have := (List.getElem?_eq_some_iff.1 hx0).1; omega)) ?_)
          refine TL.cons rfl (V1.t (V1.load1 (v := .bool b) one_4 rfl (bool_rd (by repeat (first | exact Find.here | assumption | apply Find.there | apply Find.far)) hb)) ?_)
          rcases Bool.eq_false_or_eq_true b with e_b | e_b <;> subst e_b
          ·
            refine TL.nil ?_
            refine T.cond_t rfl ?_
            refine T.region ?_
            refine TL.cons rfl (V1.t (V1.move' (by (conv => lhs; whnf) <;> rfl)) ?_)
            refine TL.cons rfl (V1.t (V1.move' (by (conv => lhs; whnf) <;> rfl)) ?_)
            refine TL.cons rfl (V1.t (V1.move' (by (conv => lhs; whnf) <;> rfl)) ?_)
            refine TL.cons rfl (V1.t (V1.indexAddrS ty_47 sz_49 rfl rfl (by omega) (by omega)) ?_)
            refine TL.cons rfl (V1.t (V1.loadN (vs := [.int .i64 kx, .string (bstr nx), .slice ax asx.length cx]) one_49 sz_49 rfl (hrdx _ rfl rfl _ (by repeat (first | exact Inc.nil | assumption | exact Inc.refl | exact Inc.here | apply Inc.app | apply Inc.cons (by repeat (first | exact Find.here | assumption | apply Find.there | apply Find.far)) | apply Inc.skip1 | apply Inc.skip))) rfl) ?_)
            refine TL.cons rfl (T1.buildOne (cs := [.int .i64 kx, .string (bstr nx), .slice ax asx.length cx]) ty_47 sz_49 zr_49 (by decide) rfl (by rfl) (fun b226 => ?_))
            refine TL.cons rfl (T1.appendG ty_47 kd_47 sz_49 by_49 zr_49 rfl (by decide) (by decide) rfl rfl (.inr rfl) hslo (.sl (vs := [.int .i64 kx, .string (bstr nx), .slice ax asx.length cx]) (RdN.at0 (by repeat (first | exact Find.here | assumption | apply Find.there | apply Find.far))) (by rfl)) (ones rfl) 3001 (by rw [hxo.len]; show _ + 3 ≤ _; omega) (by decide) (by repeat (first | exact PickS.last | exact PickS.one | exact PickS.here | exact PickS.nil | apply PickS.there | apply PickS.far)) (fun s2 Ls2 hsl2 => ?_))
            refine TL.cons rfl (V1.t (V1.assign' (by (conv => lhs; whnf) <;> rfl)) ?_)
            refine TL.nil ?_
            refine T.live (l := [(6, _), (7, _), (20, _), (21, _)]) (.cons (by (conv => lhs; whnf) <;> rfl) (.cons (by (conv => lhs; whnf) <;> rfl) (.cons (by (conv => lhs; whnf) <;> rfl) (.cons (by (conv => lhs; whnf) <;> rfl) .nil)))) (fun e_ => ?_)
            refine T.region ?_
            refine TL.cons rfl (V1.t (V1.move' (by (conv => lhs; whnf) <;> rfl)) ?_)
            refine TL.cons rfl (V1.t (V1.add (c := ((i + 1 : Nat) : Int)) rfl rfl (by rw [wrap_i64 _ (by omega) (by omega)]; omega)) ?_)
            refine TL.cons rfl (V1.t (V1.assign' (by (conv => lhs; whnf) <;> rfl)) ?_)
            refine TL.nil ?_
            exact ⟨(i + 1, s2), Ls2 ++ (⟨b7, 0, (hd0).map Value.bool, al.length⟩ :: (Z ++ (⟨b3, 0, [.int .i64 kt, .string (bstr nt), .slice at_ ast.length ct_], 3⟩ :: G))), _, (by simp only; omega), (.cons rfl (.cons rfl .nil)), (.cons rfl (.cons rfl .nil)), (by repeat (first | exact Take.nil | apply Take.one (by repeat (first | exact Pick.here | apply Pick.there | apply Pick.far)) | apply Take.seg (by repeat (first | exact PickS.last | exact PickS.one | exact PickS.here | exact PickS.nil | apply PickS.there | apply PickS.far)) | exact Take.last (by repeat (first | exact PickS.last | exact PickS.one | exact PickS.here | exact PickS.nil | apply PickS.there | apply PickS.far)))), ⟨Ls2, _, _, rfl, by simp only; omega, hsl2, hxo.app (TmsR.one hx), hou.put hx0 hb⟩⟩
          ·
            refine TL.nil ?_
            refine T.cond_f rfl ?_
            refine T.skip ?_
            refine T.region ?_
            refine TL.cons rfl (V1.t (V1.move' (by (conv => lhs; whnf) <;> rfl)) ?_)
            refine TL.cons rfl (V1.t (V1.add (c := ((i + 1 : Nat) : Int)) rfl rfl (by rw [wrap_i64 _ (by omega) (by omega)]; omega)) ?_)
            refine TL.cons rfl (V1.t (V1.assign' (by (conv => lhs; whnf) <;> rfl)) ?_)
            refine TL.nil ?_
            exact ⟨(i + 1, so), Lo ++ (⟨b7, 0, (hd0).map Value.bool, al.length⟩ :: (Z ++ (⟨b3, 0, [.int .i64 kt, .string (bstr nt), .slice at_ ast.length ct_], 3⟩ :: G))), _, (by simp only; omega), (.cons rfl (.cons rfl .nil)), (.cons rfl (.cons rfl .nil)), (by repeat (first | exact Take.nil | apply Take.one (by repeat (first | exact Pick.here | apply Pick.there | apply Pick.far)) | apply Take.seg (by repeat (first | exact PickS.last | exact PickS.one | exact PickS.here | exact PickS.nil | apply PickS.there | apply PickS.far)) | exact Take.last (by repeat (first | exact PickS.last | exact PickS.one | exact PickS.here | exact PickS.nil | apply PickS.there | apply PickS.far)))), ⟨Lo, _, _, rfl, by simp only; omega, hslo, hxo, hou.skip hb⟩⟩
        ·
          try simp only at h42
          obtain rfl : i = al.length := by omega
          refine TL.nil ?_
          refine T.cond_f rfl ?_
          refine T.exit ?_
          refine T.seq ?_
          refine T.region ?_
          refine TL.cons rfl (V1.t (V1.move' (by (conv => lhs; whnf) <;> rfl)) ?_)
          refine TL.cons rfl (V1.t (V1.assign' (by (conv => lhs; whnf) <;> rfl)) ?_)
          refine TL.nil ?_
          refine T.ret ?_
          exact ⟨_, Lo ++ (Z ++ G), _, .cons (.tmp (by (conv => lhs; whnf) <;> rfl)) .nil, (by repeat (first | exact Take.nil | apply Take.one (by repeat (first | exact Pick.here | apply Pick.there | apply Pick.far)) | apply Take.seg (by repeat (first | exact PickS.last | exact PickS.one | exact PickS.here | exact PickS.nil | apply PickS.there | apply PickS.far)) | exact Take.last (by repeat (first | exact PickS.last | exact PickS.one | exact PickS.here | exact PickS.nil | apply PickS.there | apply PickS.far)))), Lo ++ Z, by rw [List.append_assoc], Lo, Z, ou, xo, rfl, hslo, hxo, Nat.le_trans hou.1 hal, (hou.had).trans (hrf.law (fun x hx => (hok x hx).1) hmm ((hmm _).2 (mat_self (by simp))))⟩

end Go.Proofs.YtlpkcbkflfbclaaDoor.S
