/- One more laid bare makes nothing secret. -/
import Derived.Test.YtlpkcbkflfbclaaGreatDoorG11
namespace Go.Proofs.YtlpkcbkflfbclaaGreatDoor.S
open Go.RowKit

theorem runs_app {es fs : List (Int × Int)} : ∀ {s : Sg}, s.runs (es ++ fs) = if (s.runs es).1 = 0 then (s.runs es).2.runs fs else s.runs es := by
  induction es with
  | nil => intro s; rw [List.nil_append, Sg.runs, if_pos rfl]
  | cons e es ih =>
    intro s
    rw [List.cons_append, Sg.runs, Sg.runs]
    by_cases h : (s.step e.1 e.2).1 = 0
    · rw [if_pos h, if_pos h]; exact ih
    · rw [if_neg h, if_neg h, if_neg h]
theorem sg_more {es : List (Int × Int)} {w : Int} (hl : es.length < 24) (h1 : 1 ≤ w) (h6 : w ≤ 6) : sgRun (es ++ [(4, w)]) = if (sgRun es).1 = 0 then (0, (sgRun es).2.lay w.toNat) else sgRun es := by
  unfold sgRun
  have hA : ¬ 24 < (es ++ [((4 : Int), w)]).length := by simp; omega
  have hB : ¬ 24 < es.length := by omega
  rw [if_neg hA, if_neg hB, runs_app]
  have hst : ∀ s : Sg, s.step 4 w = (0, s.lay w.toNat) := fun s => by
    unfold Sg.step
    rw [if_neg (by omega), if_neg (fun h => absurd h.1 (by decide)), if_neg (fun h => absurd h.1 (by decide)), if_neg (fun h => absurd h.1 (by decide)), if_pos rfl]
  have e : ∀ s : Sg, s.runs [(4, w)] = (0, s.lay w.toNat) := fun s => by
    rw [Sg.runs]
    simp only [hst, if_true]
    rfl
  rw [e]
theorem sg_more1 {es : List (Int × Int)} {w : Int} (hl : es.length < 24) (h1 : 1 ≤ w) (h6 : w ≤ 6) : (sgRun (es ++ [(4, w)])).1 = (sgRun es).1 := by
  rw [sg_more hl h1 h6]
  by_cases h : (sgRun es).1 = 0
  · rw [if_pos h, h]
  · rw [if_neg h]
theorem open_lay {s : Sg} {w : Nat} {t : Td} (h : t.open s = true) : t.open (s.lay w) = true := by
  have hb : ∀ n, n ∈ s.bare → n ∈ (s.lay w).bare := fun n hn => by unfold Sg.lay; dsimp only; split; exact hn; exact List.mem_append_left _ hn
  have hk : ∀ k, k ∈ s.keys → k ∈ (s.lay w).keys := fun k hk => by unfold Sg.lay; dsimp only; split; exact List.mem_append_left _ hk; exact hk
  unfold Td.open at h ⊢
  simp only [Bool.or_eq_true, List.any_eq_true, decide_eq_true_eq] at h ⊢
  rcases h with ⟨n, h1, h2, h3⟩ | ⟨h1, h2⟩ | h
  · exact .inl ⟨n, h1, h2, hb _ h3⟩
  · exact .inr (.inl ⟨hb _ h1, h2⟩)
  · exact .inr (.inr (hk _ h))
theorem sec_more {es : List (Int × Int)} {w : Int} (hl : es.length < 24) (h1 : 1 ≤ w) (h6 : w ≤ 6) (hc : (sgRun es).1 = 0) : (secL (es ++ [(4, w)])).Sublist (secL es) := by
  have e1 : sgOut (es ++ [(4, w)]) = (sgOut es).lay w.toNat := by
    unfold sgOut
    rw [sg_more1 hl h1 h6, if_pos hc, if_pos hc, sg_more hl h1 h6, if_pos hc]
  unfold secL
  rw [e1]
  have e2 : ((sgOut es).lay w.toNat).told = (sgOut es).told := rfl
  rw [e2]
  generalize (sgOut es).told = l
  induction l with
  | nil => exact List.Sublist.refl _
  | cons t l ih =>
    rw [List.filter_cons, List.filter_cons]
    cases ho : t.open (sgOut es) with
    | true => rw [open_lay ho]; exact ih
    | false =>
      cases t.open ((sgOut es).lay w.toNat) with
      | true => exact ih.cons _
      | false => exact ih.cons_cons _
theorem sec_num {es : List (Int × Int)} : ∀ t ∈ secL es, t.num < 26 := by
  intro t ht
  unfold secL at ht
  have h1 := (List.mem_filter.1 ht).1
  by_cases hc : (sgRun es).1 = 0
  · obtain ⟨i, hi⟩ := List.getElem?_of_mem h1
    have h2 := (tells_at (out_inv hc) hi).1
    have h3 := (List.getElem?_eq_some_iff.1 hi).1
    have := (out_inv hc).tl
    omega
  · rw [sgOut_err hc] at h1; cases h1
theorem nmb_ne : ∀ a < 26, ∀ b < 26, decide (bstr (nmb sText [a]) ≠ bstr (nmb sText [b])) = decide (a ≠ b) := by decide +kernel
theorem ev_ones {es : List (Int × Int)} : ∀ u ∈ es.flatMap evC, one u = true := by
  intro u hu
  obtain ⟨e, _, he⟩ := List.mem_flatMap.1 hu
  unfold evC at he
  simp only [List.mem_cons, List.not_mem_nil, or_false] at he
  rcases he with rfl | rfl <;> rfl
theorem SlG.none2 {E : TypeId} (b : Nat) : SlG (some E) (.slice (some ⟨b, 0, none⟩) 0 0) [] 2 [⟨⟨b, some E⟩, 0, [], 0⟩] := .inr ⟨b, 0, 0, 0, 0, rfl, rfl, Nat.le_refl _, Nat.le_refl _, rfl⟩
theorem rd_mid {C : Ctx} {L : List Blk} {b o : Nat} {pre cs post : List Value} (h : RdN C L ⟨b, o, none⟩ (pre ++ (cs ++ post))) : RdN C L ⟨b, o + pre.length, none⟩ cs := by
  intro i v hv
  have h1 : (pre ++ (cs ++ post))[pre.length + i]? = some v := by
    rw [List.getElem?_append_right (by omega), show pre.length + i - pre.length = i by omega, List.getElem?_append_left (List.getElem?_eq_some_iff.1 hv).1, hv]
  have := h (pre.length + i) v h1
  show Rd C L ⟨b, o + pre.length + i, none⟩ v
  rw [Nat.add_assoc]; exact this
theorem nodup6 {ns : List Nat} (hn : ns.Nodup) (h6 : ∀ n ∈ ns, 1 ≤ n ∧ n ≤ 6) : ns.length ≤ 6 := by
  have key : ∀ (l big : List Nat), l.Nodup → (∀ x ∈ l, x ∈ big) → l.length ≤ big.length := by
    intro l
    induction l with
    | nil => intro big _ _; exact Nat.zero_le _
    | cons a l ih =>
      intro big h hs
      have ha : a ∈ big := hs a (by simp)
      obtain ⟨h1, h2⟩ := List.nodup_cons.1 h
      have := ih (big.erase a) h2 fun x hx => (List.mem_erase_of_ne (fun e => h1 (by rw [← e]; exact hx))).2 (hs x (by simp [hx]))
      have hl := List.length_erase_of_mem ha
      have hp := List.length_pos_of_mem ha
      rw [List.length_cons]; omega
  have := key ns [1, 2, 3, 4, 5, 6] hn fun x hx => by
    have := h6 x hx
    simp only [List.mem_cons, List.not_mem_nil, or_false]; omega
  simpa using this
theorem sg_own2 {s : Sg} (h : SgInv 24 s) {n : Nat} (hn : 1 ≤ n ∧ n ≤ 6) : Ans s.known (ownT n) ↔ n ∈ s.bare := by
  refine ⟨fun ha => ?_, fun hl => ⟨(chk_own _ (by omega)).1, by rw [nrm_ownT]; exact der_own h hl⟩⟩
  have h2 := ha.2
  rw [nrm_ownT] at h2
  exact up_own h hn.2 (Mk.atom_iff.1 ((UpS.closed h).der (h2.mono (up_of h))))
theorem ty65 : P.underlying 65 = some (.pointer 108) := by kernel_rfl
theorem ev_snoc {es : List (Int × Int)} {k w : Int} : es.flatMap evC ++ [.int .i64 k, .int .i64 w] = (es ++ [(k, w)]).flatMap evC := by
  rw [List.flatMap_append]; rfl
theorem sub_next {a b : List Td} {j k : Nat} {t y : Td} (h : (t :: b).Sublist (a.drop k)) (hy : a[k]? = some y) (hne : y ≠ t) : (t :: b).Sublist (a.drop (k + 1)) := by
  obtain ⟨h1, h2⟩ := List.getElem?_eq_some_iff.1 hy
  rw [List.drop_eq_getElem_cons h1, h2] at h
  cases h with
  | cons _ h => exact h
  | cons_cons _ h => exact absurd rfl hne
theorem sub_lt {a b : List Td} {k : Nat} {t : Td} (h : (t :: b).Sublist (a.drop k)) : k < a.length := by
  have := h.length_le
  simp at this; omega
/-- What is known begins with the six public keys. -/
theorem known_pre {s : Sg} {k w : Int} : ∃ r, (s.step k w).2.known = s.known ++ r := by
  unfold Sg.step
  repeat' split
  all_goals first | exact ⟨[], (List.append_nil _).symm⟩ | exact ⟨_, rfl⟩
theorem runs_pre {es : List (Int × Int)} : ∀ {s : Sg}, ∃ r, (s.runs es).2.known = s.known ++ r := by
  induction es with
  | nil => intro s; exact ⟨[], (List.append_nil _).symm⟩
  | cons e es ih =>
    intro s
    rw [Sg.runs]
    split
    · obtain ⟨r1, h1⟩ := known_pre (s := s) (k := e.1) (w := e.2)
      obtain ⟨r2, h2⟩ := ih (s := (s.step e.1 e.2).2)
      exact ⟨r1 ++ r2, by rw [h2, h1, List.append_assoc]⟩
    · exact ⟨[], (List.append_nil _).symm⟩
theorem out_pub {es : List (Int × Int)} (hc : (sgRun es).1 = 0) {n : Nat} (h1 : 1 ≤ n) (h6 : n ≤ 6) : (sgOut es).known[n - 1]? = some (pub (ownT n)) := by
  have hn : ¬ 24 < es.length := fun hl => by unfold sgRun at hc; rw [if_pos hl] at hc; cases hc
  unfold sgOut
  rw [if_pos hc]
  unfold sgRun
  rw [if_neg hn]
  obtain ⟨r, hr⟩ := runs_pre (es := es) (s := Sg.init)
  rw [hr, List.getElem?_append_left (by show n - 1 < 6; omega)]
  match n, h1, h6 with
  | 1, _, _ => rfl
  | 2, _, _ => rfl
  | 3, _, _ => rfl
  | 4, _, _ => rfl
  | 5, _, _ => rfl
  | 6, _, _ => rfl

set_option maxRecDepth 100000 in
set_option maxHeartbeats 8000000 in
theorem SagaMore_any (w0 : World) (Ps : List Blk) {es : List (Int × Int)} {a : Option Addr} {c : Nat} (hr : RowR w0 Ps 2 (.slice a es.length c) es.length (es.flatMap evC)) (w : Int) : FnV P 7 [.slice a es.length c, .int .i64 w] w0 Ps (fun v => v = .bool true) := by
  refine FnV.of 135 [.tmp 4] Go.Proofs.Tryz.func7 rfl rfl rfl rfl (fun G hG => ?_)
  refine T.seq ?_
  refine T.region ?_
  refine TL.cons rfl (V1.t (V1.assign' (by (conv => lhs; whnf) <;> rfl)) ?_)
  refine TL.nil ?_
  refine T.seq ?_
  refine T.seq ?_
  refine T.region ?_
  refine TL.cons rfl (T1.callV has_21 rfl rfl (hides_any w0) (by repeat (first | exact Inc.nil | with_reducible assumption | exact Inc.refl | exact Inc.here | apply Inc.app | apply Inc.cons (by repeat (first | exact Find.here | with_reducible assumption | apply Find.there | apply Find.far | assumption)) | apply Inc.skip1 | apply Inc.skip | assumption)) (fun v_ hv => ?_))
  obtain rfl := hv
  refine TL.cons rfl (V1.t (V1.not rfl rfl) ?_)
  refine TL.nil ?_
  refine T.cond_f rfl ?_
  refine T.skip ?_
  refine T.seq ?_
  refine T.seq ?_
  obtain hg | hg | hg | ⟨hg1, hg2, hg3⟩ : 24 ≤ es.length ∨ (es.length < 24 ∧ w < 1) ∨ (es.length < 24 ∧ 1 ≤ w ∧ 6 < w) ∨ (es.length < 24 ∧ 1 ≤ w ∧ w ≤ 6) := by omega
  ·
    refine T.region ?_
    refine TL.cons rfl (V1.t (V1.move' (by (conv => lhs; whnf) <;> rfl)) ?_)
    refine TL.cons rfl (V1.t (V1.lenSl ty_42 rfl) ?_)
    refine TL.cons rfl (V1.t (V1.geI (r := true) rfl rfl (decide_eq_true (by omega))) ?_)
    refine TL.cons rfl (V1.t (V1.move' (by (conv => lhs; whnf) <;> rfl)) ?_)
    refine TL.no rfl ?_
    refine TL.no rfl ?_
    refine TL.cons rfl (V1.t (V1.pick rfl (by (conv => lhs; whnf) <;> rfl)) ?_)
    refine TL.cons rfl (V1.t (V1.move' (by (conv => lhs; whnf) <;> rfl)) ?_)
    refine TL.no rfl ?_
    refine TL.no rfl ?_
    refine TL.cons rfl (V1.t (V1.pick rfl (by (conv => lhs; whnf) <;> rfl)) ?_)
    refine TL.nil ?_
    refine T.cond_t rfl ?_
    refine T.seq ?_
    refine T.region ?_
    refine TL.cons rfl (V1.t (V1.assign' (by (conv => lhs; whnf) <;> rfl)) ?_)
    refine TL.nil ?_
    refine T.ret ?_
    exact ⟨_, G, _, .cons (.tmp (by (conv => lhs; whnf) <;> rfl)) .nil, (by repeat (first | exact Take.nil | apply Take.one (by repeat (first | exact Pick.here | apply Pick.there | apply Pick.far)) | apply Take.seg (by repeat (first | exact PickS.last | exact PickS.one | exact PickS.here | exact PickS.nil | apply PickS.there | apply PickS.far)) | exact Take.last (by repeat (first | exact PickS.last | exact PickS.one | exact PickS.here | exact PickS.nil | apply PickS.there | apply PickS.far)))), rfl, rfl⟩
  ·
    refine T.region ?_
    refine TL.cons rfl (V1.t (V1.move' (by (conv => lhs; whnf) <;> rfl)) ?_)
    refine TL.cons rfl (V1.t (V1.lenSl ty_42 rfl) ?_)
    refine TL.cons rfl (V1.t (V1.geI (r := false) rfl rfl (decide_eq_false (by omega))) ?_)
    refine TL.cons rfl (V1.t (V1.move' (by (conv => lhs; whnf) <;> rfl)) ?_)
    refine TL.cons rfl (V1.t (V1.move' (by (conv => lhs; whnf) <;> rfl)) ?_)
    refine TL.cons rfl (V1.t (V1.ltI (r := true) rfl rfl (decide_eq_true (by omega))) ?_)
    refine TL.cons rfl (V1.t (V1.pick rfl (by (conv => lhs; whnf) <;> rfl)) ?_)
    refine TL.cons rfl (V1.t (V1.move' (by (conv => lhs; whnf) <;> rfl)) ?_)
    refine TL.no rfl ?_
    refine TL.no rfl ?_
    refine TL.cons rfl (V1.t (V1.pick rfl (by (conv => lhs; whnf) <;> rfl)) ?_)
    refine TL.nil ?_
    refine T.cond_t rfl ?_
    refine T.seq ?_
    refine T.region ?_
    refine TL.cons rfl (V1.t (V1.assign' (by (conv => lhs; whnf) <;> rfl)) ?_)
    refine TL.nil ?_
    refine T.ret ?_
    exact ⟨_, G, _, .cons (.tmp (by (conv => lhs; whnf) <;> rfl)) .nil, (by repeat (first | exact Take.nil | apply Take.one (by repeat (first | exact Pick.here | apply Pick.there | apply Pick.far)) | apply Take.seg (by repeat (first | exact PickS.last | exact PickS.one | exact PickS.here | exact PickS.nil | apply PickS.there | apply PickS.far)) | exact Take.last (by repeat (first | exact PickS.last | exact PickS.one | exact PickS.here | exact PickS.nil | apply PickS.there | apply PickS.far)))), rfl, rfl⟩
  ·
    refine T.region ?_
    refine TL.cons rfl (V1.t (V1.move' (by (conv => lhs; whnf) <;> rfl)) ?_)
    refine TL.cons rfl (V1.t (V1.lenSl ty_42 rfl) ?_)
    refine TL.cons rfl (V1.t (V1.geI (r := false) rfl rfl (decide_eq_false (by omega))) ?_)
    refine TL.cons rfl (V1.t (V1.move' (by (conv => lhs; whnf) <;> rfl)) ?_)
    refine TL.cons rfl (V1.t (V1.move' (by (conv => lhs; whnf) <;> rfl)) ?_)
    refine TL.cons rfl (V1.t (V1.ltI (r := false) rfl rfl (decide_eq_false (by omega))) ?_)
    refine TL.cons rfl (V1.t (V1.pick rfl (by (conv => lhs; whnf) <;> rfl)) ?_)
    refine TL.cons rfl (V1.t (V1.move' (by (conv => lhs; whnf) <;> rfl)) ?_)
    refine TL.cons rfl (V1.t (V1.move' (by (conv => lhs; whnf) <;> rfl)) ?_)
    refine TL.cons rfl (V1.t (V1.gtI (r := true) rfl rfl (decide_eq_true (by omega))) ?_)
    refine TL.cons rfl (V1.t (V1.pick rfl (by (conv => lhs; whnf) <;> rfl)) ?_)
    refine TL.nil ?_
    refine T.cond_t rfl ?_
    refine T.seq ?_
    refine T.region ?_
    refine TL.cons rfl (V1.t (V1.assign' (by (conv => lhs; whnf) <;> rfl)) ?_)
    refine TL.nil ?_
    refine T.ret ?_
    exact ⟨_, G, _, .cons (.tmp (by (conv => lhs; whnf) <;> rfl)) .nil, (by repeat (first | exact Take.nil | apply Take.one (by repeat (first | exact Pick.here | apply Pick.there | apply Pick.far)) | apply Take.seg (by repeat (first | exact PickS.last | exact PickS.one | exact PickS.here | exact PickS.nil | apply PickS.there | apply PickS.far)) | exact Take.last (by repeat (first | exact PickS.last | exact PickS.one | exact PickS.here | exact PickS.nil | apply PickS.there | apply PickS.far)))), rfl, rfl⟩
  ·
    refine T.region ?_
    refine TL.cons rfl (V1.t (V1.move' (by (conv => lhs; whnf) <;> rfl)) ?_)
    refine TL.cons rfl (V1.t (V1.lenSl ty_42 rfl) ?_)
    refine TL.cons rfl (V1.t (V1.geI (r := false) rfl rfl (decide_eq_false (by omega))) ?_)
    refine TL.cons rfl (V1.t (V1.move' (by (conv => lhs; whnf) <;> rfl)) ?_)
    refine TL.cons rfl (V1.t (V1.move' (by (conv => lhs; whnf) <;> rfl)) ?_)
    refine TL.cons rfl (V1.t (V1.ltI (r := false) rfl rfl (decide_eq_false (by omega))) ?_)
    refine TL.cons rfl (V1.t (V1.pick rfl (by (conv => lhs; whnf) <;> rfl)) ?_)
    refine TL.cons rfl (V1.t (V1.move' (by (conv => lhs; whnf) <;> rfl)) ?_)
    refine TL.cons rfl (V1.t (V1.move' (by (conv => lhs; whnf) <;> rfl)) ?_)
    refine TL.cons rfl (V1.t (V1.gtI (r := false) rfl rfl (decide_eq_false (by omega))) ?_)
    refine TL.cons rfl (V1.t (V1.pick rfl (by (conv => lhs; whnf) <;> rfl)) ?_)
    refine TL.nil ?_
    refine T.cond_f rfl ?_
    refine T.skip ?_
    refine T.seq ?_
    refine T.region ?_
    refine TL.cons rfl (V1.t (V1.move' (by (conv => lhs; whnf) <;> rfl)) ?_)
    refine TL.cons rfl (T1.callC has_26 rfl rfl (Secret_us w0 Ps hr) (by repeat (first | exact Inc.nil | with_reducible assumption | exact Inc.refl | exact Inc.here | apply Inc.app | apply Inc.cons (by repeat (first | exact Find.here | with_reducible assumption | apply Find.there | apply Find.far | assumption)) | apply Inc.skip1 | apply Inc.skip | assumption)) (fun v_ Y_ hY => ?_))
    obtain ⟨vt1, xt1, Lt1, Q1, rfl, rfl, hst1, hxt1⟩ := hY
    simp only [List.append_assoc]
    obtain ⟨ts1, hts1, rfl, hA1⟩ := hxt1.items
    have hlt1 : ts1.length = (secL es).length := by rw [← hts1, List.length_map]
    have hrt1 := RowR.ofSl (w0 := w0) hst1 Inc.refl (by decide) ts1.length (tdC_len hA1)
    obtain ⟨at1, ct1, rfl⟩ := hrt1.form
    refine TL.cons rfl (V1.t (V1.move' (by (conv => lhs; whnf) <;> rfl)) ?_)
    refine TL.cons rfl (V1.t (V1.extract rfl (by rfl)) ?_)
    refine TL.cons rfl (V1.t (V1.extract rfl (by rfl)) ?_)
    refine TL.cons rfl (V1.t (V1.assign' (by (conv => lhs; whnf) <;> rfl)) ?_)
    refine TL.cons rfl (V1.t (V1.assign' (by (conv => lhs; whnf) <;> rfl)) ?_)
    refine TL.nil ?_
    refine T.seq ?_
    refine T.live (l := [(0, _), (1, _), (5, _), (6, _)]) (.cons (by (conv => lhs; whnf) <;> rfl) (.cons (by (conv => lhs; whnf) <;> rfl) (.cons (by (conv => lhs; whnf) <;> rfl) (.cons (by (conv => lhs; whnf) <;> rfl) .nil)))) (fun e_ => ?_)
    refine T.region ?_
    refine TL.cons rfl (T1.buildNone ty_42 sz_62 zr_62 (fun b41 => ?_))
    refine TL.cons rfl (V1.t (V1.move' (by (conv => lhs; whnf) <;> rfl)) ?_)
    refine TL.cons rfl (T1.appendG ty_42 kd_42 sz_62 by_62 zr_62 rfl (by decide) (by decide) rfl rfl (.inr rfl) (SlG.none2 b41) (hr.src _ rfl rfl _ (by repeat (first | exact Inc.nil | with_reducible assumption | exact Inc.refl | exact Inc.here | apply Inc.app | apply Inc.cons (by repeat (first | exact Find.here | with_reducible assumption | apply Find.there | apply Find.far | assumption)) | apply Inc.skip1 | apply Inc.skip | assumption))) ev_ones 25 (by rw [ev_len]; simp only [List.length_nil]; omega) (by decide) (by repeat (first | exact PickS.last | exact PickS.one | exact PickS.here | exact PickS.nil | apply PickS.there | apply PickS.far)) (fun s1 Ls1 hsl1 => ?_))
    rw [List.nil_append] at hsl1
    refine TL.cons rfl (V1.t (V1.move' (by (conv => lhs; whnf) <;> rfl)) ?_)
    refine TL.cons rfl (V1.t (V1.buildF pl_62 zr_62 (.one rfl (by (conv => lhs; whnf) <;> rfl) rfl (.one rfl (by (conv => lhs; whnf) <;> rfl) rfl .nil)) (by repeat (first | exact FillL.nil | exact SetN.done | apply SetN.here | apply SetN.there | apply FillL.cons))) ?_)
    refine TL.cons rfl (T1.buildOne (cs := [.int .i64 4, .int .i64 w]) ty_42 sz_62 zr_62 (by decide) rfl (by rfl) (fun b46 => ?_))
    refine TL.cons rfl (T1.appendG ty_42 kd_42 sz_62 by_62 zr_62 rfl (by decide) (by decide) rfl rfl (.inr rfl) hsl1 (.sl (vs := [.int .i64 4, .int .i64 w]) (RdN.at0 (by repeat (first | exact Find.here | with_reducible assumption | apply Find.there | apply Find.far | assumption))) (by rfl)) (ones rfl) 25 (by rw [ev_len]; show _ + 2 ≤ _; omega) (by decide) (by repeat (first | exact PickS.last | exact PickS.one | exact PickS.here | exact PickS.nil | apply PickS.there | apply PickS.far)) (fun s2 Ls2 hsl2 => ?_))
    rw [ev_snoc] at hsl2
    obtain ⟨a2, c2, rfl⟩ := hsl2.formT (n := es.length + 1) (by decide) (by rw [ev_len]; simp)
    have hs2 := Secret_at w0 (Ls2 ++ []) (es ++ [(4, w)]) _ _ (es.length + 1) _ rfl (sg_more1 hg1 hg2 hg3) (by simp) rfl (RowR.ofSl hsl2 Inc.here (by decide) (es.length + 1) (by rw [ev_len]; simp))
    refine TL.cons rfl (T1.callC has_26 rfl rfl hs2 (by repeat (first | exact Inc.nil | with_reducible assumption | exact Inc.refl | exact Inc.here | apply Inc.app | apply Inc.cons (by repeat (first | exact Find.here | with_reducible assumption | apply Find.there | apply Find.far | assumption)) | apply Inc.skip1 | apply Inc.skip | assumption)) (fun v_ Y2 hY => ?_))
    obtain ⟨vt2, xt2, Lt2, Q2, rfl, rfl, hst2, hxt2⟩ := hY
    simp only [List.append_assoc]
    obtain ⟨ts2, hts2, rfl, hA2⟩ := hxt2.items
    have hlt2 : ts2.length = (secL (es ++ [(4, w)])).length := by rw [← hts2, List.length_map]
    have hrt2 := RowR.ofSl (w0 := w0) hst2 Inc.refl (by decide) ts2.length (tdC_len hA2)
    obtain ⟨at2, ct2, rfl⟩ := hrt2.form
    refine TL.cons rfl (V1.t (V1.move' (by (conv => lhs; whnf) <;> rfl)) ?_)
    refine TL.cons rfl (V1.t (V1.extract rfl (by rfl)) ?_)
    refine TL.cons rfl (V1.t (V1.extract rfl (by rfl)) ?_)
    refine TL.cons rfl (V1.t (V1.assign' (by (conv => lhs; whnf) <;> rfl)) ?_)
    refine TL.cons rfl (V1.t (V1.assign' (by (conv => lhs; whnf) <;> rfl)) ?_)
    refine TL.nil ?_
    refine T.seq ?_
    refine T.seq ?_
    refine T.region ?_
    refine TL.cons rfl (V1.t (V1.move' (by (conv => lhs; whnf) <;> rfl)) ?_)
    refine TL.cons rfl (V1.t (V1.move' (by (conv => lhs; whnf) <;> rfl)) ?_)
    refine TL.cons rfl (V1.t (V1.neI (r := false) rfl rfl (decide_eq_false (fun h => h rfl))) ?_)
    refine TL.nil ?_
    refine T.cond_f rfl ?_
    refine T.skip ?_
    refine T.seq ?_
    refine T.seq ?_
    refine T.live (l := [(0, _), (5, _), (6, _), (7, _)]) (.cons (by (conv => lhs; whnf) <;> rfl) (.cons (by (conv => lhs; whnf) <;> rfl) (.cons (by (conv => lhs; whnf) <;> rfl) (.cons (by (conv => lhs; whnf) <;> rfl) .nil)))) (fun e_ => ?_)
    refine T.region ?_
    refine TL.cons rfl (V1.t (V1.move' (by (conv => lhs; whnf) <;> rfl)) ?_)
    refine TL.cons rfl (V1.t (V1.neI (r := decide ((sgRun es).1 ≠ 0)) rfl rfl rfl) ?_)
    rcases Classical.em ((sgRun es).1 = 0) with hc0 | hc0
    ·
      rw [decide_eq_false (by simpa using hc0)]
      have hI := out_inv hc0
      have hsub := sec_more hg1 hg2 hg3 hc0
      have htl := hI.tl
      have hsl1_ : (secL es).length ≤ (sgOut es).told.length := List.length_filter_le _ _
      have hsl2_ := hsub.length_le
      refine TL.nil ?_
      refine T.cond_f rfl ?_
      refine T.skip ?_
      refine T.seq ?_
      refine T.region ?_
      refine TL.cons rfl (V1.t (V1.assign' (by (conv => lhs; whnf) <;> rfl)) ?_)
      refine TL.nil ?_
      refine T.seq ?_
      refine T.seq ?_
      refine T.region ?_
      refine TL.cons rfl (V1.t (V1.move' (by (conv => lhs; whnf) <;> rfl)) ?_)
      refine TL.cons rfl (V1.t (V1.lenSl ty_43 rfl) ?_)
      refine TL.cons rfl (V1.t (V1.move' (by (conv => lhs; whnf) <;> rfl)) ?_)
      refine TL.nil ?_
      refine T.block ?_
      refine T.loopL (σ := Nat × Nat) (l0 := [(0, _), (5, _), (59, _), (60, _)]) (fun x => [(61, .int .i64 (x.1 : Nat)), (9, .int .i64 (x.2 : Nat))]) (fun x L => L = (Lt2 ++ (Q2 ++ (Ls2 ++ (Lt1 ++ (Q1 ++ G))))) ∧ x.1 ≤ ts2.length ∧ x.2 ≤ ts1.length ∧ ((secL (es ++ [(4, w)])).drop x.1).Sublist ((secL es).drop x.2)) (fun x => ts2.length - x.1) (0, 0) (.cons rfl (.cons rfl .nil)) (.cons (by (conv => lhs; whnf) <;> rfl) (.cons (by (conv => lhs; whnf) <;> rfl) (.cons (by (conv => lhs; whnf) <;> rfl) (.cons (by (conv => lhs; whnf) <;> rfl) .nil)))) (by repeat (first | exact Take.nil | apply Take.one (by repeat (first | exact Pick.here | apply Pick.there | apply Pick.far)) | apply Take.seg (by repeat (first | exact PickS.last | exact PickS.one | exact PickS.here | exact PickS.nil | apply PickS.there | apply PickS.far)) | exact Take.last (by repeat (first | exact PickS.last | exact PickS.one | exact PickS.here | exact PickS.nil | apply PickS.there | apply PickS.far)))) (⟨rfl, Nat.zero_le _, Nat.zero_le _, hsub⟩) ?_
      rintro ⟨j, k0⟩ e_ L ⟨rfl, hj_, hk0_, hsb0⟩
      simp only at hj_ hk0_ hsb0
      dsimp only
      refine T.seq ?_
      refine T.region ?_
      refine TL.cons rfl (T1.ltI_split rfl rfl (fun h13 => ?_) (fun h13 => ?_))
      ·
        obtain ⟨x, hx0⟩ : ∃ z, ts2[j]? = some z := ⟨_, List.getElem?_eq_getElem (by omega)⟩
        have hx := hA2 x (List.mem_of_getElem? hx0)
        have hnumx := sec_num x.1 (by rw [← hts2]; exact List.mem_map_of_mem (List.mem_of_getElem? hx0))
        have hx1 : (secL (es ++ [(4, w)]))[j]? = some x.1 := by rw [← hts2, List.getElem?_map, hx0]; rfl
        obtain ⟨⟨whx, epx, nmsx, numx⟩, csx⟩ := x
        dsimp only at hx hnumx hx1
        obtain ⟨ax, cx, rfl, _⟩ := hx
        obtain ⟨bx_, ox_, rfl, hrdx⟩ := hrt2.at (by omega) P
        have hdr := List.drop_eq_getElem_cons (List.getElem?_eq_some_iff.1 hx1).1
        rw [(List.getElem?_eq_some_iff.1 hx1).2] at hdr
        rw [hdr] at hsb0
        refine TL.nil ?_
        refine T.seq ?_
        refine T.cond_t rfl ?_
        refine T.skip ?_
        refine T.seq ?_
        refine T.block ?_
        refine T.seq ?_
        refine T.region ?_
        refine TL.cons rfl (V1.t (V1.indexAddrS ty_43 sz_55 rfl rfl (by omega) (by omega)) ?_)
        refine TL.cons rfl (V1.t (V1.loadN (vs := [iV whx, iV epx, .slice ax nmsx.length cx, .int .i64 1, .string (bstr (nmb sText [numx])), .slice none 0 0]) one_55 sz_55 rfl (tdC_rd hA2 hx0 rfl (hrdx _ rfl rfl _ (by repeat (first | exact Inc.nil | with_reducible assumption | exact Inc.refl | exact Inc.here | apply Inc.app | apply Inc.cons (by repeat (first | exact Find.here | with_reducible assumption | apply Find.there | apply Find.far | assumption)) | apply Inc.skip1 | apply Inc.skip | assumption)))) rfl) ?_)
        refine TL.cons rfl (T1.allocN 6 zr_55 rfl (fun b11 => ?_))
        refine TL.cons rfl (T1.storeN rfl rfl sz_55 (ones rfl) (by repeat (first | exact Sub.one | apply Sub.there | apply Sub.far)) (by rfl) (by rfl) ?_)
        refine TL.nil ?_
        refine T.seq ?_
        refine T.block ?_
        refine T.loopL (σ := Nat) (l0 := [(0, _), (5, _), (11, _), (59, _), (60, _), (61, _)]) (fun x => [(9, .int .i64 (x : Nat))]) (fun k L => L = (⟨b11, 0, [iV whx, iV epx, .slice ax nmsx.length cx, .int .i64 1, .string (bstr (nmb sText [numx])), .slice none 0 0], 6⟩ : Blk) :: (Lt2 ++ (Q2 ++ (Ls2 ++ (Lt1 ++ (Q1 ++ G))))) ∧ k ≤ ts1.length ∧ ((⟨whx, epx, nmsx, numx⟩ : Td) :: (secL (es ++ [(4, w)])).drop (j + 1)).Sublist ((secL es).drop k)) (fun k => ts1.length - k) k0 (.cons rfl .nil) (.cons (by (conv => lhs; whnf) <;> rfl) (.cons (by (conv => lhs; whnf) <;> rfl) (.cons (by (conv => lhs; whnf) <;> rfl) (.cons (by (conv => lhs; whnf) <;> rfl) (.cons (by (conv => lhs; whnf) <;> rfl) (.cons (by (conv => lhs; whnf) <;> rfl) .nil)))))) (by repeat (first | exact Take.nil | apply Take.one (by repeat (first | exact Pick.here | apply Pick.there | apply Pick.far)) | apply Take.seg (by repeat (first | exact PickS.last | exact PickS.one | exact PickS.here | exact PickS.nil | apply PickS.there | apply PickS.far)) | exact Take.last (by repeat (first | exact PickS.last | exact PickS.one | exact PickS.here | exact PickS.nil | apply PickS.there | apply PickS.far)))) (⟨rfl, hk0_, hsb0⟩) ?_
        rintro k e_ L ⟨rfl, hk_, hsbk⟩
        have hkl := sub_lt hsbk
        obtain ⟨y, hy0⟩ : ∃ z, ts1[k]? = some z := ⟨_, List.getElem?_eq_getElem (by omega)⟩
        have hy := hA1 y (List.mem_of_getElem? hy0)
        have hnumy := sec_num y.1 (by rw [← hts1]; exact List.mem_map_of_mem (List.mem_of_getElem? hy0))
        have hy1 : (secL es)[k]? = some y.1 := by rw [← hts1, List.getElem?_map, hy0]; rfl
        obtain ⟨⟨why, epy, nmsy, numy⟩, csy⟩ := y
        dsimp only at hy hnumy hy1
        obtain ⟨ay, cy, rfl, _⟩ := hy
        obtain ⟨by_, oy_, rfl, hrdy⟩ := hrt1.at (by omega) P
        refine T.seq ?_
        refine T.seq ?_
        rcases Nat.decEq numy numx with hny | hny
        ·
          refine T.drawDet' mixed (by decide +kernel) ?_
          refine Det.cons 0 (ins := [(9, _)]) (.old (by (conv => lhs; whnf) <;> rfl) (by decide +kernel) .nil) (fun e_ => .inl ⟨rfl, V1.t (V1.move' (by (conv => lhs; whnf) <;> rfl)) ⟨rfl, rfl⟩⟩) ?_
          refine Det.cons 1 (ins := [(5, _)]) (.old (by (conv => lhs; whnf) <;> rfl) (by decide +kernel) .nil) (fun e_ => .inl ⟨rfl, V1.t (V1.move' (by (conv => lhs; whnf) <;> rfl)) ⟨rfl, rfl⟩⟩) ?_
          refine Det.cons 2 (ins := [(66, _)]) (.new 1 0 (by decide +kernel) rfl rfl .nil) (fun e_ => .inl ⟨rfl, V1.t (V1.lenSl ty_43 rfl) ⟨rfl, rfl⟩⟩) ?_
          refine Det.cons 3 (ins := [(65, _), (67, _)]) (.new 0 2 (by decide +kernel) rfl rfl (.new 2 0 (by decide +kernel) rfl rfl .nil)) (fun e_ => .inl ⟨rfl, V1.t (V1.ltI (r := true) rfl rfl (decide_eq_true (by omega))) ⟨rfl, rfl⟩⟩) ?_
          refine Det.cons 4 (ins := [(68, _)]) (.new 3 0 (by decide +kernel) rfl rfl .nil) (fun e_ => .inl ⟨rfl, V1.t (V1.move' (by (conv => lhs; whnf) <;> rfl)) ⟨rfl, rfl⟩⟩) ?_
          refine Det.cons 5 (ins := [(5, _), (69, _)]) (.old (by (conv => lhs; whnf) <;> rfl) (by decide +kernel) (.new 4 0 (by decide +kernel) rfl rfl .nil)) (fun e_ => .inl ⟨rfl, V1.t (V1.move' (by (conv => lhs; whnf) <;> rfl)) ⟨rfl, rfl⟩⟩) ?_
          refine Det.cons 6 (ins := [(9, _), (69, _)]) (.old (by (conv => lhs; whnf) <;> rfl) (by decide +kernel) (.new 4 1 (by decide +kernel) rfl rfl .nil)) (fun e_ => .inl ⟨rfl, V1.t (V1.move' (by (conv => lhs; whnf) <;> rfl)) ⟨rfl, rfl⟩⟩) ?_
          refine Det.cons 7 (ins := [(69, _), (70, _), (71, _)]) (.new 4 2 (by decide +kernel) rfl rfl (.new 5 1 (by decide +kernel) rfl rfl (.new 6 0 (by decide +kernel) rfl rfl .nil))) (fun e_ => .inl ⟨rfl, V1.t (V1.indexAddrS ty_43 sz_55 rfl rfl (by omega) (by omega)) ⟨rfl, rfl⟩⟩) ?_
          refine Det.cons 8 (ins := [(69, _), (72, _)]) (.new 4 3 (by decide +kernel) rfl rfl (.new 7 0 (by decide +kernel) rfl rfl .nil)) (fun e_ => .inl ⟨rfl, V1.t (V1.fieldAddr fl_55_3 rfl) ⟨rfl, rfl⟩⟩) ?_
          refine Det.cons 9 (ins := [(69, _), (73, _)]) (.new 4 4 (by decide +kernel) rfl rfl (.new 8 0 (by decide +kernel) rfl rfl .nil)) (fun e_ => .inl ⟨rfl, V1.t (V1.loadN (vs := [.int .i64 1, .string (bstr (nmb sText [numy])), .slice none 0 0]) one_24 sz_24 rfl (rd_mid (pre := [iV why, iV epy, .slice ay nmsy.length cy]) (cs := [.int .i64 1, .string (bstr (nmb sText [numy])), .slice none 0 0]) (post := []) (tdC_rd (xs := [iV why, iV epy, .slice ay nmsy.length cy, .int .i64 1, .string (bstr (nmb sText [numy])), .slice none 0 0]) hA1 hy0 rfl (hrdy _ rfl rfl _ (by repeat (first | exact Inc.nil | with_reducible assumption | exact Inc.refl | exact Inc.here | apply Inc.app | apply Inc.cons (by repeat (first | exact Find.here | with_reducible assumption | apply Find.there | apply Find.far | assumption)) | apply Inc.skip1 | apply Inc.skip | assumption))))) rfl) ⟨rfl, rfl⟩⟩) ?_
          refine Det.cons 10 (ins := [(69, _), (74, _)]) (v := keyT numy) (.new 4 5 (by decide +kernel) rfl rfl (.new 9 0 (by decide +kernel) rfl rfl .nil)) (fun e_ => .inl ⟨rfl, ?_⟩) ?_
          · refine T1.callV has_14 rfl rfl (TString_text w0 numy hnumy) (by repeat (first | exact Inc.nil | with_reducible assumption | exact Inc.refl | exact Inc.here | apply Inc.app | apply Inc.cons (by repeat (first | exact Find.here | with_reducible assumption | apply Find.there | apply Find.far | assumption)) | apply Inc.skip1 | apply Inc.skip | assumption)) (fun v_ hv => ?_)
            obtain rfl := hv
            exact ⟨rfl, rfl⟩
          refine Det.cons 11 (ins := [(11, _), (69, _)]) (.old (by (conv => lhs; whnf) <;> rfl) (by decide +kernel) (.new 4 6 (by decide +kernel) rfl rfl .nil)) (fun e_ => .inl ⟨rfl, V1.t (V1.fieldAddr fl_55_3 rfl) ⟨rfl, rfl⟩⟩) ?_
          refine Det.cons 12 (ins := [(69, _), (76, _)]) (.new 4 7 (by decide +kernel) rfl rfl (.new 11 0 (by decide +kernel) rfl rfl .nil)) (fun e_ => .inl ⟨rfl, V1.t (V1.loadN (vs := [.int .i64 1, .string (bstr (nmb sText [numx])), .slice none 0 0]) one_24 sz_24 rfl (RdN.mid2 (pre := [iV whx, iV epx, .slice ax nmsx.length cx]) (cs := [.int .i64 1, .string (bstr (nmb sText [numx])), .slice none 0 0]) (post := []) (by repeat (first | exact Find.here | with_reducible assumption | apply Find.there | apply Find.far | assumption)) rfl) rfl) ⟨rfl, rfl⟩⟩) ?_
          refine Det.cons 13 (ins := [(69, _), (77, _)]) (v := keyT numx) (.new 4 8 (by decide +kernel) rfl rfl (.new 12 0 (by decide +kernel) rfl rfl .nil)) (fun e_ => .inl ⟨rfl, ?_⟩) ?_
          · refine T1.callV has_14 rfl rfl (TString_text w0 numx hnumx) (by repeat (first | exact Inc.nil | with_reducible assumption | exact Inc.refl | exact Inc.here | apply Inc.app | apply Inc.cons (by repeat (first | exact Find.here | with_reducible assumption | apply Find.there | apply Find.far | assumption)) | apply Inc.skip1 | apply Inc.skip | assumption)) (fun v_ hv => ?_)
            obtain rfl := hv
            exact ⟨rfl, rfl⟩
          refine Det.cons 14 (ins := [(69, _), (75, _), (78, _)]) (.new 4 9 (by decide +kernel) rfl rfl (.new 10 3 (by decide +kernel) rfl rfl (.new 13 0 (by decide +kernel) rfl rfl .nil))) (fun e_ => .inl ⟨rfl, V1.t (V1.neS (r := true) rfl rfl ((nmb_ne _ hnumy _ hnumx).trans (decide_eq_true hny))) ⟨rfl, rfl⟩⟩) ?_
          refine Det.cons 15 (ins := [(69, _), (79, _)]) (.new 4 10 (by decide +kernel) rfl rfl (.new 14 0 (by decide +kernel) rfl rfl .nil)) (fun e_ => .inl ⟨rfl, V1.t (V1.pick rfl (by (conv => lhs; whnf) <;> rfl)) ⟨rfl, rfl⟩⟩) ?_
          refine Det.nil 16 (l := [(0, _), (5, _), (9, _), (11, _), (59, _), (60, _), (61, _), (80, _)]) (.old (by (conv => lhs; whnf) <;> rfl) (by decide +kernel) (.old (by (conv => lhs; whnf) <;> rfl) (by decide +kernel) (.old (by (conv => lhs; whnf) <;> rfl) (by decide +kernel) (.old (by (conv => lhs; whnf) <;> rfl) (by decide +kernel) (.old (by (conv => lhs; whnf) <;> rfl) (by decide +kernel) (.old (by (conv => lhs; whnf) <;> rfl) (by decide +kernel) (.old (by (conv => lhs; whnf) <;> rfl) (by decide +kernel) (.new 15 0 (by decide +kernel) rfl rfl .nil)))))))) (fun e_ => ?_)
          refine T.cond_t rfl ?_
          refine T.skip ?_
          refine T.block ?_
          refine T.region ?_
          refine TL.cons rfl (V1.t (V1.move' (by (conv => lhs; whnf) <;> rfl)) ?_)
          refine TL.cons rfl (V1.t (V1.add (c := ((k + 1 : Nat) : Int)) rfl rfl (by rw [wrap_i64 _ (by omega) (by omega)]; omega)) ?_)
          refine TL.cons rfl (V1.t (V1.assign' (by (conv => lhs; whnf) <;> rfl)) ?_)
          refine TL.nil ?_
          exact ⟨k + 1, (⟨b11, 0, [iV whx, iV epx, .slice ax nmsx.length cx, .int .i64 1, .string (bstr (nmb sText [numx])), .slice none 0 0], 6⟩ : Blk) :: (Lt2 ++ (Q2 ++ (Ls2 ++ (Lt1 ++ (Q1 ++ G))))), _, (by simp only; omega), (.cons rfl .nil), (.cons rfl (.cons rfl (.cons rfl (.cons rfl (.cons rfl (.cons rfl .nil)))))), (by repeat (first | exact Take.nil | apply Take.one (by repeat (first | exact Pick.here | apply Pick.there | apply Pick.far)) | apply Take.seg (by repeat (first | exact PickS.last | exact PickS.one | exact PickS.here | exact PickS.nil | apply PickS.there | apply PickS.far)) | exact Take.last (by repeat (first | exact PickS.last | exact PickS.one | exact PickS.here | exact PickS.nil | apply PickS.there | apply PickS.far)))), ⟨rfl, by omega, sub_next (j := j) hsbk hy1 (fun h => hny (congrArg Td.num h))⟩⟩
        ·
          refine T.drawDet' mixed (by decide +kernel) ?_
          refine Det.cons 0 (ins := [(9, _)]) (.old (by (conv => lhs; whnf) <;> rfl) (by decide +kernel) .nil) (fun e_ => .inl ⟨rfl, V1.t (V1.move' (by (conv => lhs; whnf) <;> rfl)) ⟨rfl, rfl⟩⟩) ?_
          refine Det.cons 1 (ins := [(5, _)]) (.old (by (conv => lhs; whnf) <;> rfl) (by decide +kernel) .nil) (fun e_ => .inl ⟨rfl, V1.t (V1.move' (by (conv => lhs; whnf) <;> rfl)) ⟨rfl, rfl⟩⟩) ?_
          refine Det.cons 2 (ins := [(66, _)]) (.new 1 0 (by decide +kernel) rfl rfl .nil) (fun e_ => .inl ⟨rfl, V1.t (V1.lenSl ty_43 rfl) ⟨rfl, rfl⟩⟩) ?_
          refine Det.cons 3 (ins := [(65, _), (67, _)]) (.new 0 2 (by decide +kernel) rfl rfl (.new 2 0 (by decide +kernel) rfl rfl .nil)) (fun e_ => .inl ⟨rfl, V1.t (V1.ltI (r := true) rfl rfl (decide_eq_true (by omega))) ⟨rfl, rfl⟩⟩) ?_
          refine Det.cons 4 (ins := [(68, _)]) (.new 3 0 (by decide +kernel) rfl rfl .nil) (fun e_ => .inl ⟨rfl, V1.t (V1.move' (by (conv => lhs; whnf) <;> rfl)) ⟨rfl, rfl⟩⟩) ?_
          refine Det.cons 5 (ins := [(5, _), (69, _)]) (.old (by (conv => lhs; whnf) <;> rfl) (by decide +kernel) (.new 4 0 (by decide +kernel) rfl rfl .nil)) (fun e_ => .inl ⟨rfl, V1.t (V1.move' (by (conv => lhs; whnf) <;> rfl)) ⟨rfl, rfl⟩⟩) ?_
          refine Det.cons 6 (ins := [(9, _), (69, _)]) (.old (by (conv => lhs; whnf) <;> rfl) (by decide +kernel) (.new 4 1 (by decide +kernel) rfl rfl .nil)) (fun e_ => .inl ⟨rfl, V1.t (V1.move' (by (conv => lhs; whnf) <;> rfl)) ⟨rfl, rfl⟩⟩) ?_
          refine Det.cons 7 (ins := [(69, _), (70, _), (71, _)]) (.new 4 2 (by decide +kernel) rfl rfl (.new 5 1 (by decide +kernel) rfl rfl (.new 6 0 (by decide +kernel) rfl rfl .nil))) (fun e_ => .inl ⟨rfl, V1.t (V1.indexAddrS ty_43 sz_55 rfl rfl (by omega) (by omega)) ⟨rfl, rfl⟩⟩) ?_
          refine Det.cons 8 (ins := [(69, _), (72, _)]) (.new 4 3 (by decide +kernel) rfl rfl (.new 7 0 (by decide +kernel) rfl rfl .nil)) (fun e_ => .inl ⟨rfl, V1.t (V1.fieldAddr fl_55_3 rfl) ⟨rfl, rfl⟩⟩) ?_
          refine Det.cons 9 (ins := [(69, _), (73, _)]) (.new 4 4 (by decide +kernel) rfl rfl (.new 8 0 (by decide +kernel) rfl rfl .nil)) (fun e_ => .inl ⟨rfl, V1.t (V1.loadN (vs := [.int .i64 1, .string (bstr (nmb sText [numy])), .slice none 0 0]) one_24 sz_24 rfl (rd_mid (pre := [iV why, iV epy, .slice ay nmsy.length cy]) (cs := [.int .i64 1, .string (bstr (nmb sText [numy])), .slice none 0 0]) (post := []) (tdC_rd (xs := [iV why, iV epy, .slice ay nmsy.length cy, .int .i64 1, .string (bstr (nmb sText [numy])), .slice none 0 0]) hA1 hy0 rfl (hrdy _ rfl rfl _ (by repeat (first | exact Inc.nil | with_reducible assumption | exact Inc.refl | exact Inc.here | apply Inc.app | apply Inc.cons (by repeat (first | exact Find.here | with_reducible assumption | apply Find.there | apply Find.far | assumption)) | apply Inc.skip1 | apply Inc.skip | assumption))))) rfl) ⟨rfl, rfl⟩⟩) ?_
          refine Det.cons 10 (ins := [(69, _), (74, _)]) (v := keyT numy) (.new 4 5 (by decide +kernel) rfl rfl (.new 9 0 (by decide +kernel) rfl rfl .nil)) (fun e_ => .inl ⟨rfl, ?_⟩) ?_
          · refine T1.callV has_14 rfl rfl (TString_text w0 numy hnumy) (by repeat (first | exact Inc.nil | with_reducible assumption | exact Inc.refl | exact Inc.here | apply Inc.app | apply Inc.cons (by repeat (first | exact Find.here | with_reducible assumption | apply Find.there | apply Find.far | assumption)) | apply Inc.skip1 | apply Inc.skip | assumption)) (fun v_ hv => ?_)
            obtain rfl := hv
            exact ⟨rfl, rfl⟩
          refine Det.cons 11 (ins := [(11, _), (69, _)]) (.old (by (conv => lhs; whnf) <;> rfl) (by decide +kernel) (.new 4 6 (by decide +kernel) rfl rfl .nil)) (fun e_ => .inl ⟨rfl, V1.t (V1.fieldAddr fl_55_3 rfl) ⟨rfl, rfl⟩⟩) ?_
          refine Det.cons 12 (ins := [(69, _), (76, _)]) (.new 4 7 (by decide +kernel) rfl rfl (.new 11 0 (by decide +kernel) rfl rfl .nil)) (fun e_ => .inl ⟨rfl, V1.t (V1.loadN (vs := [.int .i64 1, .string (bstr (nmb sText [numx])), .slice none 0 0]) one_24 sz_24 rfl (RdN.mid2 (pre := [iV whx, iV epx, .slice ax nmsx.length cx]) (cs := [.int .i64 1, .string (bstr (nmb sText [numx])), .slice none 0 0]) (post := []) (by repeat (first | exact Find.here | with_reducible assumption | apply Find.there | apply Find.far | assumption)) rfl) rfl) ⟨rfl, rfl⟩⟩) ?_
          refine Det.cons 13 (ins := [(69, _), (77, _)]) (v := keyT numx) (.new 4 8 (by decide +kernel) rfl rfl (.new 12 0 (by decide +kernel) rfl rfl .nil)) (fun e_ => .inl ⟨rfl, ?_⟩) ?_
          · refine T1.callV has_14 rfl rfl (TString_text w0 numx hnumx) (by repeat (first | exact Inc.nil | with_reducible assumption | exact Inc.refl | exact Inc.here | apply Inc.app | apply Inc.cons (by repeat (first | exact Find.here | with_reducible assumption | apply Find.there | apply Find.far | assumption)) | apply Inc.skip1 | apply Inc.skip | assumption)) (fun v_ hv => ?_)
            obtain rfl := hv
            exact ⟨rfl, rfl⟩
          refine Det.cons 14 (ins := [(69, _), (75, _), (78, _)]) (.new 4 9 (by decide +kernel) rfl rfl (.new 10 3 (by decide +kernel) rfl rfl (.new 13 0 (by decide +kernel) rfl rfl .nil))) (fun e_ => .inl ⟨rfl, V1.t (V1.neS (r := false) rfl rfl ((nmb_ne _ hnumy _ hnumx).trans (decide_eq_false (fun h => h hny)))) ⟨rfl, rfl⟩⟩) ?_
          refine Det.cons 15 (ins := [(69, _), (79, _)]) (.new 4 10 (by decide +kernel) rfl rfl (.new 14 0 (by decide +kernel) rfl rfl .nil)) (fun e_ => .inl ⟨rfl, V1.t (V1.pick rfl (by (conv => lhs; whnf) <;> rfl)) ⟨rfl, rfl⟩⟩) ?_
          refine Det.nil 16 (l := [(0, _), (5, _), (9, _), (11, _), (59, _), (60, _), (61, _), (80, _)]) (.old (by (conv => lhs; whnf) <;> rfl) (by decide +kernel) (.old (by (conv => lhs; whnf) <;> rfl) (by decide +kernel) (.old (by (conv => lhs; whnf) <;> rfl) (by decide +kernel) (.old (by (conv => lhs; whnf) <;> rfl) (by decide +kernel) (.old (by (conv => lhs; whnf) <;> rfl) (by decide +kernel) (.old (by (conv => lhs; whnf) <;> rfl) (by decide +kernel) (.old (by (conv => lhs; whnf) <;> rfl) (by decide +kernel) (.new 15 0 (by decide +kernel) rfl rfl .nil)))))))) (fun e_ => ?_)
          refine T.cond_f rfl ?_
          refine T.exit ?_
          refine T.seq ?_
          refine T.region ?_
          refine TL.cons rfl (V1.t (V1.move' (by (conv => lhs; whnf) <;> rfl)) ?_)
          refine TL.cons rfl (V1.t (V1.move' (by (conv => lhs; whnf) <;> rfl)) ?_)
          refine TL.cons rfl (V1.t (V1.lenSl ty_43 rfl) ?_)
          refine TL.cons rfl (V1.t (V1.eqI (r := false) rfl rfl (decide_eq_false (by omega))) ?_)
          refine TL.nil ?_
          refine T.cond_f rfl ?_
          refine T.skip ?_
          refine T.region ?_
          refine TL.cons rfl (V1.t (V1.add (c := ((j + 1 : Nat) : Int)) rfl rfl (by rw [wrap_i64 _ (by omega) (by omega)]; omega)) ?_)
          refine TL.cons rfl (V1.t (V1.move' (by (conv => lhs; whnf) <;> rfl)) ?_)
          refine TL.nil ?_
          exact ⟨(j + 1, k), (Lt2 ++ (Q2 ++ (Ls2 ++ (Lt1 ++ (Q1 ++ G))))), _, (by simp only; omega), (.cons rfl (.cons rfl .nil)), (.cons rfl (.cons rfl (.cons rfl (.cons rfl .nil)))), (by repeat (first | exact Take.nil | apply Take.one (by repeat (first | exact Pick.here | apply Pick.there | apply Pick.far)) | apply Take.seg (by repeat (first | exact PickS.last | exact PickS.one | exact PickS.here | exact PickS.nil | apply PickS.there | apply PickS.far)) | exact Take.last (by repeat (first | exact PickS.last | exact PickS.one | exact PickS.here | exact PickS.nil | apply PickS.there | apply PickS.far)))), ⟨rfl, by simp only; omega, by simp only; omega, (List.sublist_cons_self _ _).trans hsbk⟩⟩
      ·
        obtain rfl : j = ts2.length := by omega
        refine TL.nil ?_
        refine T.seq ?_
        refine T.cond_f rfl ?_
        refine T.exit ?_
        refine T.seq ?_
        refine T.region ?_
        refine TL.cons rfl (V1.t (V1.move' (by (conv => lhs; whnf) <;> rfl)) ?_)
        refine TL.cons rfl (T1.callC has_22 rfl rfl (Run_us w0 Ps hr) (by repeat (first | exact Inc.nil | with_reducible assumption | exact Inc.refl | exact Inc.here | apply Inc.app | apply Inc.cons (by repeat (first | exact Find.here | with_reducible assumption | apply Find.there | apply Find.far | assumption)) | apply Inc.skip1 | apply Inc.skip | assumption)) (fun v_ Y_ hY => ?_))
        obtain ⟨vt, vk, vb, Lt, Lk, Lb, Q, xt, xk, rfl, rfl, hst, hxt, hsk, hxk, hsb⟩ := hY
        simp only [List.append_assoc]
        obtain ⟨ak, ck, rfl, hrk⟩ := hsk.tm hxk
        have hrb := Sl.nat (w0 := w0) hsb
        obtain ⟨ab, cb, rfl⟩ := hrb.form
        have hkl_ := hI.kl
        have hb6 := nodup6 hI.br.2 hI.br.1
        refine TL.cons rfl (V1.t (V1.move' (by (conv => lhs; whnf) <;> rfl)) ?_)
        refine TL.cons rfl (V1.t (V1.extract rfl (by rfl)) ?_)
        refine TL.cons rfl (V1.t (V1.extract rfl (by rfl)) ?_)
        refine TL.cons rfl (V1.t (V1.extract rfl (by rfl)) ?_)
        refine TL.cons rfl (V1.t (V1.extract rfl (by rfl)) ?_)
        refine TL.cons rfl (V1.t (V1.assign' (by (conv => lhs; whnf) <;> rfl)) ?_)
        refine TL.cons rfl (V1.t (V1.assign' (by (conv => lhs; whnf) <;> rfl)) ?_)
        refine TL.cons rfl (V1.t (V1.assign' (by (conv => lhs; whnf) <;> rfl)) ?_)
        refine TL.cons rfl (V1.t (V1.assign' (by (conv => lhs; whnf) <;> rfl)) ?_)
        refine TL.nil ?_
        refine T.seq ?_
        refine T.region ?_
        refine TL.cons rfl (V1.t (V1.move' (by (conv => lhs; whnf) <;> rfl)) ?_)
        refine TL.cons rfl (T1.callC has_27 rfl rfl (New_any w0 (Lk ++ (Q ++ Ps)) hrk (hxk.more (Inc.skip Inc.refl)) (by omega)) (by repeat (first | exact Inc.nil | with_reducible assumption | exact Inc.refl | exact Inc.here | apply Inc.app | apply Inc.cons (by repeat (first | exact Find.here | with_reducible assumption | apply Find.there | apply Find.far | assumption)) | apply Inc.skip1 | apply Inc.skip | assumption)) (fun v_ Yk hY => ?_))
        obtain ⟨kb, l, rfl, hkn, hk⟩ := sec_new hI hY
        refine TL.cons rfl (V1.t (V1.move' (by (conv => lhs; whnf) <;> rfl)) ?_)
        refine TL.cons rfl (V1.t (V1.extract rfl (by rfl)) ?_)
        refine TL.cons rfl (V1.t (V1.extract rfl (by rfl)) ?_)
        refine TL.cons rfl (V1.t (V1.assign' (by (conv => lhs; whnf) <;> rfl)) ?_)
        refine TL.cons rfl (V1.t (V1.assign' (by (conv => lhs; whnf) <;> rfl)) ?_)
        refine TL.nil ?_
        refine T.seq ?_
        refine T.seq ?_
        refine T.live (l := [(13, _), (14, _), (16, _), (17, _)]) (.cons (by (conv => lhs; whnf) <;> rfl) (.cons (by (conv => lhs; whnf) <;> rfl) (.cons (by (conv => lhs; whnf) <;> rfl) (.cons (by (conv => lhs; whnf) <;> rfl) .nil)))) (fun e_ => ?_)
        refine T.region ?_
        refine TL.cons rfl (V1.t (V1.move' (by (conv => lhs; whnf) <;> rfl)) ?_)
        refine TL.cons rfl (V1.t (V1.neI (r := false) rfl rfl (by decide)) ?_)
        refine TL.cons rfl (V1.t (V1.move' (by (conv => lhs; whnf) <;> rfl)) ?_)
        refine TL.cons rfl (V1.t (V1.move' (by (conv => lhs; whnf) <;> rfl)) ?_)
        refine TL.cons rfl (V1.t (V1.eqNil ty65 rfl rfl) ?_)
        refine TL.cons rfl (V1.t (V1.pick rfl (by (conv => lhs; whnf) <;> rfl)) ?_)
        refine TL.nil ?_
        refine T.cond_f rfl ?_
        refine T.skip ?_
        refine T.seq ?_
        refine T.seq ?_
        refine T.region ?_
        refine TL.cons rfl (V1.t (V1.assign' (by (conv => lhs; whnf) <;> rfl)) ?_)
        refine TL.nil ?_
        refine T.block ?_
        refine T.loopL (σ := Nat) (l0 := [(13, _), (14, _), (16, _)]) (fun x => [(18, .int .i64 (x : Nat))]) (fun n L => L = (Yk ++ (Lt ++ (Lk ++ (Lb ++ (Q ++ (Lt2 ++ (Q2 ++ (Ls2 ++ (Lt1 ++ (Q1 ++ G)))))))))) ∧ 1 ≤ n ∧ n ≤ 7) (fun n => 7 - n) 1 (.cons rfl .nil) (.cons (by (conv => lhs; whnf) <;> rfl) (.cons (by (conv => lhs; whnf) <;> rfl) (.cons (by (conv => lhs; whnf) <;> rfl) .nil))) (by repeat (first | exact Take.nil | apply Take.one (by repeat (first | exact Pick.here | apply Pick.there | apply Pick.far)) | apply Take.seg (by repeat (first | exact PickS.last | exact PickS.one | exact PickS.here | exact PickS.nil | apply PickS.there | apply PickS.far)) | exact Take.last (by repeat (first | exact PickS.last | exact PickS.one | exact PickS.here | exact PickS.nil | apply PickS.there | apply PickS.far)))) (⟨rfl, by decide, by decide⟩) ?_
        rintro n e_ L ⟨rfl, hn1, hn7⟩
        refine T.seq ?_
        refine T.seq ?_
        refine T.region ?_
        refine TL.cons rfl (V1.t (V1.move' (by (conv => lhs; whnf) <;> rfl)) ?_)
        refine TL.cons rfl (T1.leI_split rfl rfl (fun h25 => ?_) (fun h25 => ?_))
        ·
          have hpub := out_pub hc0 hn1 (by omega : n ≤ 6)
          have hpl := (List.getElem?_eq_some_iff.1 hpub).1
          have hxk2 : TmsR w0 (Lk ++ (Q ++ Ps)) (sgOut es).known xk := hxk.more (Inc.skip Inc.refl)
          obtain ⟨bp, op_, cp, rfl, htp, hrdp⟩ := hrk.term hxk2 hpub P
          obtain ⟨ap, cp_, vp, rfl, hrp, hlp, htp2⟩ := htp.inv
          obtain ⟨bq, oq, cq, rfl, htq, hrdq⟩ := hrp.term htp2 (i := 0) rfl P
          refine TL.nil ?_
          refine T.cond_t rfl ?_
          refine T.skip ?_
          refine T.seq ?_
          refine T.block ?_
          refine T.seq ?_
          refine T.region ?_
          refine TL.cons rfl (V1.t (V1.assign' (by (conv => lhs; whnf) <;> rfl)) ?_)
          refine TL.nil ?_
          refine T.seq ?_
          refine T.seq ?_
          refine T.region ?_
          refine TL.cons rfl (V1.t (V1.move' (by (conv => lhs; whnf) <;> rfl)) ?_)
          refine TL.cons rfl (V1.t (V1.lenSl ty_44 rfl) ?_)
          refine TL.cons rfl (V1.t (V1.move' (by (conv => lhs; whnf) <;> rfl)) ?_)
          refine TL.nil ?_
          refine T.block ?_
          refine T.loopL (σ := Nat × Bool) (l0 := [(13, _), (14, _), (16, _), (18, _), (110, _), (111, _)]) (fun x => [(112, .int .i64 (x.1 : Nat)), (19, .bool x.2)]) (fun x L => L = (Yk ++ (Lt ++ (Lk ++ (Lb ++ (Q ++ (Lt2 ++ (Q2 ++ (Ls2 ++ (Lt1 ++ (Q1 ++ G)))))))))) ∧ x.1 ≤ (sgOut es).bare.length ∧ x.2 = decide (n ∈ (sgOut es).bare.take x.1)) (fun x => (sgOut es).bare.length - x.1) (0, false) (.cons rfl (.cons rfl .nil)) (.cons (by (conv => lhs; whnf) <;> rfl) (.cons (by (conv => lhs; whnf) <;> rfl) (.cons (by (conv => lhs; whnf) <;> rfl) (.cons (by (conv => lhs; whnf) <;> rfl) (.cons (by (conv => lhs; whnf) <;> rfl) (.cons (by (conv => lhs; whnf) <;> rfl) .nil)))))) (by repeat (first | exact Take.nil | apply Take.one (by repeat (first | exact Pick.here | apply Pick.there | apply Pick.far)) | apply Take.seg (by repeat (first | exact PickS.last | exact PickS.one | exact PickS.here | exact PickS.nil | apply PickS.there | apply PickS.far)) | exact Take.last (by repeat (first | exact PickS.last | exact PickS.one | exact PickS.here | exact PickS.nil | apply PickS.there | apply PickS.far)))) (⟨rfl, Nat.zero_le _, by simp⟩) ?_
          rintro ⟨i, r⟩ e_ L ⟨rfl, hi_, hr_⟩
          simp only at hi_ hr_
          dsimp only
          refine T.seq ?_
          refine T.region ?_
          refine TL.cons rfl (T1.ltI_split rfl rfl (fun h29 => ?_) (fun h29 => ?_))
          ·
            obtain ⟨m, hm0⟩ : ∃ m, (sgOut es).bare[i]? = some m := ⟨_, List.getElem?_eq_getElem (by omega)⟩
            obtain ⟨bb_, ob_, rfl, hrdb⟩ := hrb.at (by omega) P
            refine TL.nil ?_
            refine T.seq ?_
            refine T.cond_t rfl ?_
            refine T.skip ?_
            refine T.seq ?_
            refine T.block ?_
            refine T.seq ?_
            refine T.region ?_
            refine TL.cons rfl (V1.t (V1.indexAddrS ty_44 sz_3 rfl rfl (by omega) (by omega)) ?_)
            refine TL.cons rfl (V1.t (V1.load1 (v := iV m) one_3 rfl (show Rd _ _ ⟨_, _ + i * 1, none⟩ _ from by rw [Nat.mul_one]; exact hrdb _ rfl rfl _ (by repeat (first | exact Inc.nil | with_reducible assumption | exact Inc.refl | exact Inc.here | apply Inc.app | apply Inc.cons (by repeat (first | exact Find.here | with_reducible assumption | apply Find.there | apply Find.far | assumption)) | apply Inc.skip1 | apply Inc.skip | assumption)) i _ (by rw [List.getElem?_map, hm0]; rfl))) ?_)
            refine TL.cons rfl (V1.t (V1.assign' (by (conv => lhs; whnf) <;> rfl)) ?_)
            refine TL.nil ?_
            obtain hcc | hcc | hcc : r = true ∨ (r = false ∧ m = n) ∨ (r = false ∧ m ≠ n) := by cases r <;> simp [Classical.em]
            ·
              subst hcc
              refine T.region ?_
              refine TL.cons rfl (V1.t (V1.move' (by (conv => lhs; whnf) <;> rfl)) ?_)
              refine TL.cons rfl (V1.t (V1.move' (by (conv => lhs; whnf) <;> rfl)) ?_)
              refine TL.no rfl ?_
              refine TL.no rfl ?_
              refine TL.no rfl ?_
              refine TL.cons rfl (V1.t (V1.pick rfl (by (conv => lhs; whnf) <;> rfl)) ?_)
              refine TL.cons rfl (V1.t (V1.assign' (by (conv => lhs; whnf) <;> rfl)) ?_)
              refine TL.nil ?_
              refine T.region ?_
              refine TL.cons rfl (V1.t (V1.add (c := ((i + 1 : Nat) : Int)) rfl rfl (by rw [wrap_i64 _ (by omega) (by omega)]; omega)) ?_)
              refine TL.cons rfl (V1.t (V1.move' (by (conv => lhs; whnf) <;> rfl)) ?_)
              refine TL.nil ?_
              exact ⟨(i + 1, true), (Yk ++ (Lt ++ (Lk ++ (Lb ++ (Q ++ (Lt2 ++ (Q2 ++ (Ls2 ++ (Lt1 ++ (Q1 ++ G)))))))))), _, (by simp only; omega), (.cons rfl (.cons rfl .nil)), (.cons rfl (.cons rfl (.cons rfl (.cons rfl (.cons rfl (.cons rfl .nil)))))), (by repeat (first | exact Take.nil | apply Take.one (by repeat (first | exact Pick.here | apply Pick.there | apply Pick.far)) | apply Take.seg (by repeat (first | exact PickS.last | exact PickS.one | exact PickS.here | exact PickS.nil | apply PickS.there | apply PickS.far)) | exact Take.last (by repeat (first | exact PickS.last | exact PickS.one | exact PickS.here | exact PickS.nil | apply PickS.there | apply PickS.far)))), ⟨rfl, by simp only; omega, by simp only; rw [tk_in hm0, ← hr_]; rfl⟩⟩
            ·
              obtain ⟨rfl, hcc⟩ := hcc
              refine T.region ?_
              refine TL.cons rfl (V1.t (V1.move' (by (conv => lhs; whnf) <;> rfl)) ?_)
              refine TL.cons rfl (V1.t (V1.move' (by (conv => lhs; whnf) <;> rfl)) ?_)
              refine TL.cons rfl (V1.t (V1.move' (by (conv => lhs; whnf) <;> rfl)) ?_)
              refine TL.cons rfl (V1.t (V1.move' (by (conv => lhs; whnf) <;> rfl)) ?_)
              refine TL.cons rfl (V1.t (V1.eqI (r := true) rfl rfl (decide_eq_true (by omega))) ?_)
              refine TL.cons rfl (V1.t (V1.pick rfl (by (conv => lhs; whnf) <;> rfl)) ?_)
              refine TL.cons rfl (V1.t (V1.assign' (by (conv => lhs; whnf) <;> rfl)) ?_)
              refine TL.nil ?_
              refine T.region ?_
              refine TL.cons rfl (V1.t (V1.add (c := ((i + 1 : Nat) : Int)) rfl rfl (by rw [wrap_i64 _ (by omega) (by omega)]; omega)) ?_)
              refine TL.cons rfl (V1.t (V1.move' (by (conv => lhs; whnf) <;> rfl)) ?_)
              refine TL.nil ?_
              exact ⟨(i + 1, true), (Yk ++ (Lt ++ (Lk ++ (Lb ++ (Q ++ (Lt2 ++ (Q2 ++ (Ls2 ++ (Lt1 ++ (Q1 ++ G)))))))))), _, (by simp only; omega), (.cons rfl (.cons rfl .nil)), (.cons rfl (.cons rfl (.cons rfl (.cons rfl (.cons rfl (.cons rfl .nil)))))), (by repeat (first | exact Take.nil | apply Take.one (by repeat (first | exact Pick.here | apply Pick.there | apply Pick.far)) | apply Take.seg (by repeat (first | exact PickS.last | exact PickS.one | exact PickS.here | exact PickS.nil | apply PickS.there | apply PickS.far)) | exact Take.last (by repeat (first | exact PickS.last | exact PickS.one | exact PickS.here | exact PickS.nil | apply PickS.there | apply PickS.far)))), ⟨rfl, by simp only; omega, by simp only; rw [tk_in hm0, ← hr_]; rw [decide_eq_true hcc.symm]; rfl⟩⟩
            ·
              obtain ⟨rfl, hcc⟩ := hcc
              refine T.region ?_
              refine TL.cons rfl (V1.t (V1.move' (by (conv => lhs; whnf) <;> rfl)) ?_)
              refine TL.cons rfl (V1.t (V1.move' (by (conv => lhs; whnf) <;> rfl)) ?_)
              refine TL.cons rfl (V1.t (V1.move' (by (conv => lhs; whnf) <;> rfl)) ?_)
              refine TL.cons rfl (V1.t (V1.move' (by (conv => lhs; whnf) <;> rfl)) ?_)
              refine TL.cons rfl (V1.t (V1.eqI (r := false) rfl rfl (decide_eq_false (by omega))) ?_)
              refine TL.cons rfl (V1.t (V1.pick rfl (by (conv => lhs; whnf) <;> rfl)) ?_)
              refine TL.cons rfl (V1.t (V1.assign' (by (conv => lhs; whnf) <;> rfl)) ?_)
              refine TL.nil ?_
              refine T.region ?_
              refine TL.cons rfl (V1.t (V1.add (c := ((i + 1 : Nat) : Int)) rfl rfl (by rw [wrap_i64 _ (by omega) (by omega)]; omega)) ?_)
              refine TL.cons rfl (V1.t (V1.move' (by (conv => lhs; whnf) <;> rfl)) ?_)
              refine TL.nil ?_
              exact ⟨(i + 1, false), (Yk ++ (Lt ++ (Lk ++ (Lb ++ (Q ++ (Lt2 ++ (Q2 ++ (Ls2 ++ (Lt1 ++ (Q1 ++ G)))))))))), _, (by simp only; omega), (.cons rfl (.cons rfl .nil)), (.cons rfl (.cons rfl (.cons rfl (.cons rfl (.cons rfl (.cons rfl .nil)))))), (by repeat (first | exact Take.nil | apply Take.one (by repeat (first | exact Pick.here | apply Pick.there | apply Pick.far)) | apply Take.seg (by repeat (first | exact PickS.last | exact PickS.one | exact PickS.here | exact PickS.nil | apply PickS.there | apply PickS.far)) | exact Take.last (by repeat (first | exact PickS.last | exact PickS.one | exact PickS.here | exact PickS.nil | apply PickS.there | apply PickS.far)))), ⟨rfl, by simp only; omega, by simp only; rw [tk_in hm0, ← hr_]; rw [decide_eq_false (fun h => hcc h.symm)]; rfl⟩⟩
          ·
            obtain rfl : i = (sgOut es).bare.length := by omega
            rw [List.take_length] at hr_
            subst hr_
            refine TL.nil ?_
            refine T.seq ?_
            refine T.cond_f rfl ?_
            refine T.exit ?_
            refine T.seq ?_
            refine T.region ?_
            refine TL.cons rfl (V1.t (V1.move' (by (conv => lhs; whnf) <;> rfl)) ?_)
            refine TL.cons rfl (V1.t (V1.move' (by (conv => lhs; whnf) <;> rfl)) ?_)
            refine TL.cons rfl (V1.t (V1.move' (by (conv => lhs; whnf) <;> rfl)) ?_)
            refine TL.cons rfl (V1.t (V1.sub (c := ((n - 1 : Nat) : Int)) rfl rfl (by rw [wrap_i64 _ (by omega) (by omega)]; omega)) ?_)
            refine TL.cons rfl (V1.t (V1.indexAddrS ty_22 sz_24 rfl rfl (by omega) (by omega)) ?_)
            refine TL.cons rfl (V1.t (V1.fieldAddr fl_24_2 rfl) ?_)
            refine TL.cons rfl (V1.t (V1.load1 (v := .slice (some ⟨bq, oq, none⟩) 1 cp_) one_22 rfl (hrdp _ rfl rfl _ (by repeat (first | exact Inc.nil | with_reducible assumption | exact Inc.refl | exact Inc.here | apply Inc.app | apply Inc.cons (by repeat (first | exact Find.here | with_reducible assumption | apply Find.there | apply Find.far | assumption)) | apply Inc.skip1 | apply Inc.skip | assumption)) 2 _ rfl)) ?_)
            refine TL.cons rfl (V1.t (V1.indexAddrS ty_22 sz_24 rfl rfl (by decide) (by decide)) ?_)
            refine TL.cons rfl (V1.t (V1.loadN (vs := cq) one_24 sz_24 rfl (hrdq _ rfl rfl _ (by repeat (first | exact Inc.nil | with_reducible assumption | exact Inc.refl | exact Inc.here | apply Inc.app | apply Inc.cons (by repeat (first | exact Find.here | with_reducible assumption | apply Find.there | apply Find.far | assumption)) | apply Inc.skip1 | apply Inc.skip | assumption))) htq.len) ?_)
            refine TL.cons rfl (T1.callV has_28 rfl rfl (Makes_k hkn hk (Lk ++ (Q ++ Ps)) (t := ownT n) (ct := cq) htq) (by repeat (first | exact Inc.nil | with_reducible assumption | exact Inc.refl | exact Inc.here | apply Inc.app | apply Inc.cons (by repeat (first | exact Find.here | with_reducible assumption | apply Find.there | apply Find.far | assumption)) | apply Inc.skip1 | apply Inc.skip | assumption)) (fun v_ hv => ?_))
            obtain ⟨r2, rfl, hr2⟩ := hv
            obtain rfl : r2 = decide (n ∈ (sgOut es).bare) := by rw [Bool.eq_iff_iff, hr2.trans (sg_own2 hI ⟨hn1, by omega⟩)]; simp
            refine TL.cons rfl (V1.t (V1.move' (by (conv => lhs; whnf) <;> rfl)) ?_)
            refine TL.cons rfl (V1.t (V1.neB (r := false) ty_4 rfl rfl (by simp)) ?_)
            refine TL.nil ?_
            refine T.cond_f rfl ?_
            refine T.skip ?_
            refine T.region ?_
            refine TL.cons rfl (V1.t (V1.move' (by (conv => lhs; whnf) <;> rfl)) ?_)
            refine TL.cons rfl (V1.t (V1.add (c := ((n + 1 : Nat) : Int)) rfl rfl (by rw [wrap_i64 _ (by omega) (by omega)]; omega)) ?_)
            refine TL.cons rfl (V1.t (V1.assign' (by (conv => lhs; whnf) <;> rfl)) ?_)
            refine TL.nil ?_
            exact ⟨n + 1, (Yk ++ (Lt ++ (Lk ++ (Lb ++ (Q ++ (Lt2 ++ (Q2 ++ (Ls2 ++ (Lt1 ++ (Q1 ++ G)))))))))), _, (by simp only; omega), (.cons rfl .nil), (.cons rfl (.cons rfl (.cons rfl .nil))), (by repeat (first | exact Take.nil | apply Take.one (by repeat (first | exact Pick.here | apply Pick.there | apply Pick.far)) | apply Take.seg (by repeat (first | exact PickS.last | exact PickS.one | exact PickS.here | exact PickS.nil | apply PickS.there | apply PickS.far)) | exact Take.last (by repeat (first | exact PickS.last | exact PickS.one | exact PickS.here | exact PickS.nil | apply PickS.there | apply PickS.far)))), ⟨rfl, by omega, by omega⟩⟩
        ·
          obtain rfl : n = 7 := by omega
          refine TL.nil ?_
          refine T.cond_f rfl ?_
          refine T.exit ?_
          refine T.seq ?_
          refine T.region ?_
          refine TL.cons rfl (V1.t (V1.assign' (by (conv => lhs; whnf) <;> rfl)) ?_)
          refine TL.nil ?_
          refine T.ret ?_
          exact ⟨_, G, _, .cons (.tmp (by (conv => lhs; whnf) <;> rfl)) .nil, (by repeat (first | exact Take.nil | apply Take.one (by repeat (first | exact Pick.here | apply Pick.there | apply Pick.far)) | apply Take.seg (by repeat (first | exact PickS.last | exact PickS.one | exact PickS.here | exact PickS.nil | apply PickS.there | apply PickS.far)) | exact Take.last (by repeat (first | exact PickS.last | exact PickS.one | exact PickS.here | exact PickS.nil | apply PickS.there | apply PickS.far)))), rfl, rfl⟩
    ·
      rw [decide_eq_true hc0]
      have hz1 : ts1.length = 0 := by rw [hlt1]; unfold secL; rw [sgOut_err hc0]; rfl
      refine TL.nil ?_
      refine T.cond_t rfl ?_
      refine T.seq ?_
      refine T.region ?_
      refine TL.cons rfl (V1.t (V1.move' (by (conv => lhs; whnf) <;> rfl)) ?_)
      refine TL.cons rfl (V1.t (V1.lenSl ty_43 rfl) ?_)
      refine TL.cons rfl (V1.t (V1.eqI (r := true) rfl rfl (decide_eq_true (by omega))) ?_)
      refine TL.cons rfl (V1.t (V1.assign' (by (conv => lhs; whnf) <;> rfl)) ?_)
      refine TL.nil ?_
      refine T.ret ?_
      exact ⟨_, G, _, .cons (.tmp (by (conv => lhs; whnf) <;> rfl)) .nil, (by repeat (first | exact Take.nil | apply Take.one (by repeat (first | exact Pick.here | apply Pick.there | apply Pick.far)) | apply Take.seg (by repeat (first | exact PickS.last | exact PickS.one | exact PickS.here | exact PickS.nil | apply PickS.there | apply PickS.far)) | exact Take.last (by repeat (first | exact PickS.last | exact PickS.one | exact PickS.here | exact PickS.nil | apply PickS.there | apply PickS.far)))), rfl, rfl⟩

end Go.Proofs.YtlpkcbkflfbclaaGreatDoor.S
