/- Terms sorted. -/
import Derived.Test.YtlpkcbkflfbclaaGreatDoorT4
import Derived.Test.YtlpkcbkflfbclaaGreatDoorSortLay
namespace Go.Proofs.YtlpkcbkflfbclaaGreatDoor.S
open Go.RowKit

open Go.Sort
/-- A term of a row, with its cells. -/
abbrev It (w0 : World) (Ps : List Blk) : Type := { p : Tm × List Value // TmR w0 Ps p.1 p.2 }
def encI {w0 : World} {Ps : List Blk} (x : It w0 Ps) : List Value := x.1.2
def cfI {w0 : World} {Ps : List Blk} (x y : It w0 Ps) : Int := cmpT x.1.1 y.1.1
theorem encI_len {w0 : World} {Ps : List Blk} (x : It w0 Ps) : (encI x).length = 3 := x.2.len
theorem encI_one {w0 : World} {Ps : List Blk} (x : It w0 Ps) : ∀ v ∈ encI x, v.oneCell' = true := fun v hv => by
  have := x.2.ones v hv
  cases v <;> first | rfl | cases this
theorem swoI {w0 : World} {Ps : List Blk} : SWO (ltOf (cfI (w0 := w0) (Ps := Ps))) where
  irrefl x := by unfold ltOf cfI; rw [cmpT_self]; rfl
  trans x y z h1 h2 := by
    unfold ltOf cfI at *
    rw [decide_eq_true_iff] at *
    exact cmpT_trans h1 h2
  ntrans x y z h1 h2 := by
    unfold ltOf cfI at *
    rw [decide_eq_false_iff_not] at *
    intro h3
    have n1 := cmpT_neg x.1.1 y.1.1
    have n2 := cmpT_neg y.1.1 z.1.1
    by_cases e1 : cmpT x.1.1 y.1.1 = 0
    · rw [cmpT_eq] at e1; rw [e1] at h3; exact h2 h3
    · have h4 : cmpT y.1.1 x.1.1 < 0 := by omega
      exact h2 (cmpT_trans h4 h3)
theorem has15 (w : World) (args : Array Value) : (callFunc 30 args).run P w = .ok (.enter 30 args) w := run_callFunc has_30 args w
theorem cmpLays {w0 w : World} {Ps G : List Blk} {b off size : Nat} {tg : Option TypeId} {cells : List Value} [Inhabited (It w0 Ps)] (hst : St w0 [] (⟨⟨b, tg⟩, off, cells, size⟩ :: G) w) (hi : Inc Ps G) (n : Nat) : CmpLays P 30 #[] encI 3 (cfI (w0 := w0) (Ps := Ps)) b off n w := by
  intro m os dk _ x y
  have hs := hst.sorting encI 3 off m dk os
  have hx := TmR.rebase hi hs P x.2
  have hy := TmR.rebase hi hs P y.2
  have := (Compare_any _ x.1.1 y.1.1 [] _ _ hx hy).fn (by simp) (by simp)
  refine this.mono ?_
  rintro en w' ⟨v, Y, rfl, h1, rfl⟩
  exact ⟨rfl, grown_of_st (h1.sub (List.nil_sublist _))⟩
theorem SortFunc_any (w0 : World) (Ps : List Blk) {b off cap size : Nat} {tg : Option TypeId} {ts : List Tm} {vs : List Value} (h : TmsR w0 Ps ts vs) (hne : ts ≠ []) (hl : ts.length < 4611686018427387904) :
    FnG P 42 [.slice (some ⟨b, off, none⟩) ts.length cap, .func (.func 30) #[] #[]] w0 Ps [⟨⟨b, tg⟩, off, vs, size⟩] fun v Y => v = .tuple #[] ∧ ∃ us ws, Y = [⟨⟨b, tg⟩, off, ws, size⟩] ∧ us.Perm ts ∧ us.Pairwise (fun a b => ¬ cmpT b a < 0) ∧ TmsR w0 Ps us ws := by
  intro G w hG hst
  replace hst : St w0 [] (⟨⟨b, tg⟩, off, vs, size⟩ :: G) w := hst
  obtain ⟨es, rfl, rfl⟩ := h.items
  cases hes : es with
  | nil => rw [hes] at hne; exact absurd rfl hne
  | cons e0 es0 =>
  rw [← hes]
  haveI : Inhabited (It w0 Ps) := ⟨e0⟩
  have hfl : (flatK (encI (w0 := w0) (Ps := Ps)) 3 es.toArray).toList = (es.map (·.1.2)).flatten := by rw [flatK_list encI 3 encI_len (by decide)]; rfl
  obtain ⟨hH, hb⟩ := holds_of_st encI 3 hst es.toArray hfl
  have hsz : es.toArray.size = (es.map (·.1.1)).length := by simp
  have key := AnyQ.slices_SortFunc sortLay 3 Go.Proofs.Tryz.isAgg24 Go.Proofs.Tryz.sizeOf24 encI encI_len encI_one (cfI (w0 := w0) (Ps := Ps)) swoI 30 #[] b off cap es.toArray w (fun args w => has15 w args) (cmpLays hst hG _) hH hb (by rw [hsz]; exact hl)
  rw [hsz] at key
  refine Calls.mono (f := 42) key ?_
  rintro en w' ⟨rfl, d', n, os, hp, hs, rfl⟩
  have hps := hp.1
  have hperm : d'.toList.Perm es := by
    have := hp.2.2
    rw [← hsz] at this
    have e1 : (d'.extract 0 es.toArray.size) = d' := by rw [← hps]; simp
    have e2 : (es.toArray.extract 0 es.toArray.size) = es.toArray := by simp
    rw [e1, e2] at this
    simpa using this
  refine ⟨.tuple #[], [⟨⟨b, tg⟩, off, (d'.toList.map (·.1.2)).flatten, size⟩], rfl, ?_, rfl, d'.toList.map (·.1.1), _, rfl, hperm.map _, ?_, TmsR.ofItems _⟩
  · refine hst.sorted encI 3 n d' os (by rw [flatK_list encI 3 encI_len (by decide)]; rfl) ?_
    have l1 := (TmsR.ofItems d'.toList).len
    have l2 := (TmsR.ofItems es).len
    rw [l1, l2, List.length_map, List.length_map, hperm.length_eq]
  · rw [List.pairwise_map, List.pairwise_iff_getElem]
    intro i j hi hj hij hlt
    have hi' : i < d'.size := by simpa using hi
    have hj' : j < d'.size := by simpa using hj
    have := hs i j (Nat.zero_le _) hij (by rw [← hsz, ← hps]; exact hj')
    rw [getElem!_pos d' i hi', getElem!_pos d' j hj'] at this
    unfold ltOf cfI at this
    rw [decide_eq_false_iff_not] at this
    exact this hlt
/-- Two terms, stably. -/
theorem insTwo_any (w0 : World) (Ps : List Blk) {b off cap size : Nat} {tg : Option TypeId} {x y : Tm} {vs : List Value} (h : TmsR w0 Ps [x, y] vs) :
    FnG P 102 [.slice (some ⟨b, off, none⟩) 2 cap, .int .i64 0, .int .i64 2, .func (.func 30) #[] #[]] w0 Ps [⟨⟨b, tg⟩, off, vs, size⟩] fun v Y => v = .tuple #[] ∧ ∃ ws, Y = [⟨⟨b, tg⟩, off, ws, size⟩] ∧ TmsR w0 Ps (two [x, y]) ws := by
  intro G w hG hst
  replace hst : St w0 [] (⟨⟨b, tg⟩, off, vs, size⟩ :: G) w := hst
  obtain ⟨es, hes, rfl⟩ := h.items
  obtain ⟨e0, e1, rfl⟩ : ∃ e0 e1, es = [e0, e1] := by
    match es, hes with
    | [e0, e1], _ => exact ⟨e0, e1, rfl⟩
  have hx : e0.1.1 = x := by simpa using (List.cons.inj hes).1
  have hy : e1.1.1 = y := by simpa using (List.cons.inj (List.cons.inj hes).2).1
  haveI : Inhabited (It w0 Ps) := ⟨e0⟩
  have hfl : (flatK (encI (w0 := w0) (Ps := Ps)) 3 [e0, e1].toArray).toList = ([e0, e1].map (·.1.2)).flatten := by rw [flatK_list encI 3 encI_len (by decide)]; rfl
  obtain ⟨hH, hb⟩ := holds_of_st encI 3 hst [e0, e1].toArray hfl
  have key := AnyQ.insertionSortCmpFunc (ρ := sortLayRen) { sortLay with } 3 Go.Proofs.Tryz.isAgg24 Go.Proofs.Tryz.sizeOf24 encI encI_len encI_one (cfI (w0 := w0) (Ps := Ps)) 30 #[] b off cap 0 2 [e0, e1].toArray w (fun args w => has15 w args) (cmpLays hst hG _) hH hb (by decide) (by simp) (by simp)
  refine Calls.mono (f := 102) key ?_
  rintro en w' ⟨rfl, n, os, rfl⟩
  have hd : (Sort.insertionSort (ltOf (cfI (w0 := w0) (Ps := Ps))) [e0, e1].toArray 0 2).toList = if cmpT y x < 0 then [e1, e0] else [e0, e1] := by
    have hio : Sort.insertionSort (ltOf (cfI (w0 := w0) (Ps := Ps))) [e0, e1].toArray 0 2 = if ltOf cfI e1 e0 then swp [e0, e1].toArray 1 0 else [e0, e1].toArray := by
      unfold Sort.insertionSort
      rw [Sort.insOuter, if_pos (by decide), Sort.insOuter, if_neg (by decide), Sort.insInner, Sort.insInner]
      simp
    rw [hio]
    unfold ltOf cfI
    rw [hx, hy]
    by_cases hc : cmpT y x < 0
    · simp [hc, swp]
    · simp [hc]
  refine ⟨.tuple #[], [⟨⟨b, tg⟩, off, ((Sort.insertionSort (ltOf (cfI (w0 := w0) (Ps := Ps))) [e0, e1].toArray 0 2).toList.map (·.1.2)).flatten, size⟩], rfl, ?_, rfl, _, rfl, ?_⟩
  · refine hst.sorted encI 3 n _ os (by rw [flatK_list encI 3 encI_len (by decide)]; rfl) ?_
    have l2 := (TmsR.ofItems [e0, e1]).len
    have l1 := (TmsR.ofItems (Sort.insertionSort (ltOf (cfI (w0 := w0) (Ps := Ps))) [e0, e1].toArray 0 2).toList).len
    rw [l1, l2, hd]; split <;> rfl
  · have := TmsR.ofItems (Sort.insertionSort (ltOf (cfI (w0 := w0) (Ps := Ps))) [e0, e1].toArray 0 2).toList
    have e : (Sort.insertionSort (ltOf (cfI (w0 := w0) (Ps := Ps))) [e0, e1].toArray 0 2).toList.map (·.1.1) = two [x, y] := by
      rw [hd, two]; split <;> simp [hx, hy]
    rwa [e] at this

set_option maxRecDepth 100000 in
theorem stable_any (w0 : World) (Ps : List Blk) {b off cap size : Nat} {tg : Option TypeId} {x y : Tm} {vs : List Value} (h : TmsR w0 Ps [x, y] vs) : FnG P 74 [.slice (some ⟨b, off, none⟩) 2 cap, .int .i64 2, .func (.func 30) #[] #[]] w0 Ps [(⟨⟨b, tg⟩, off, vs, size⟩ : Blk)] (fun v Y => v = .tuple #[] ∧ ∃ ws, Y = [⟨⟨b, tg⟩, off, ws, size⟩] ∧ TmsR w0 Ps (two [x, y]) ws) := by
  refine FnG.of 63 [] Go.Proofs.Tryz.func74 rfl rfl rfl rfl (fun G hG => ?_)
  simp only [List.cons_append, List.nil_append]
  refine T.seq ?_
  refine T.region ?_
  refine TL.cons rfl (V1.t (V1.assign' z_D) ?_)
  refine TL.nil ?_
  refine T.seq ?_
  refine T.region ?_
  refine TL.cons rfl (V1.t (V1.move' z_D) ?_)
  refine TL.cons rfl (V1.t (V1.assign' z_D) ?_)
  refine TL.cons rfl (V1.t (V1.assign' z_D) ?_)
  refine TL.nil ?_
  refine T.seq ?_
  refine T.block ?_
  refine T.rounds 1 (TR.step ?_)
  refine T.seq ?_
  refine T.seq ?_
  refine T.region ?_
  refine TL.cons rfl (V1.t (V1.move' z_D) ?_)
  refine TL.cons rfl (V1.t (V1.move' z_D) ?_)
  refine TL.cons rfl (V1.t (V1.leI (r := false) rfl rfl (by decide)) ?_)
  refine TL.nil ?_
  refine T.cond_f rfl ?_
  refine T.exit ?_
  refine T.seq ?_
  refine T.region ?_
  refine TL.cons rfl (V1.t (V1.move' z_D) ?_)
  refine TL.cons rfl (V1.t (V1.move' z_D) ?_)
  refine TL.cons rfl (V1.t (V1.move' z_D) ?_)
  refine TL.cons rfl (V1.t (V1.move' z_D) ?_)
  refine TL.cons rfl (T1.callM (X := [(⟨⟨b, tg⟩, off, vs, size⟩ : Blk)]) has_102 rfl rfl (insTwo_any w0 Ps h) z_A z_E (fun v_ Y_ hY => ?_))
  obtain ⟨rfl, ws, rfl, hws⟩ := hY
  simp only [List.cons_append, List.nil_append]
  refine TL.nil ?_
  refine T.block ?_
  refine T.rounds 1 (TR.step ?_)
  refine T.seq ?_
  refine T.seq ?_
  refine T.region ?_
  refine TL.cons rfl (V1.t (V1.move' z_D) ?_)
  refine TL.cons rfl (V1.t (V1.move' z_D) ?_)
  refine TL.cons rfl (V1.t (V1.ltI (r := false) rfl rfl (by decide)) ?_)
  refine TL.nil ?_
  refine T.cond_f rfl ?_
  refine T.exit ?_
  -- the end
  exact ⟨_, ⟨⟨b, tg⟩, off, ws, size⟩ :: G, _, .nil, z_A, [⟨⟨b, tg⟩, off, ws, size⟩], rfl, rfl, ws, rfl, hws⟩

set_option maxRecDepth 100000 in
theorem Stable_any (w0 : World) (Ps : List Blk) {b off cap size : Nat} {tg : Option TypeId} {x y : Tm} {vs : List Value} (h : TmsR w0 Ps [x, y] vs) : FnG P 40 [.slice (some ⟨b, off, none⟩) 2 cap, .func (.func 30) #[] #[]] w0 Ps [(⟨⟨b, tg⟩, off, vs, size⟩ : Blk)] (fun v Y => v = .tuple #[] ∧ ∃ ws, Y = [⟨⟨b, tg⟩, off, ws, size⟩] ∧ TmsR w0 Ps (two [x, y]) ws) := by
  refine FnG.of 9 [] Go.Proofs.Tryz.func40 rfl rfl rfl rfl (fun G hG => ?_)
  simp only [List.cons_append, List.nil_append]
  refine T.region ?_
  refine TL.cons rfl (V1.t (V1.move' z_D) ?_)
  refine TL.cons rfl (V1.t (V1.move' z_D) ?_)
  refine TL.cons rfl (V1.t (V1.lenSl ty_22 rfl) ?_)
  refine TL.cons rfl (V1.t (V1.move' z_D) ?_)
  refine TL.cons rfl (T1.callM (X := [(⟨⟨b, tg⟩, off, vs, size⟩ : Blk)]) has_74 rfl rfl (stable_any w0 Ps h) z_A z_E (fun v_ Y_ hY => ?_))
  obtain ⟨rfl, ws, rfl, hws⟩ := hY
  simp only [List.cons_append, List.nil_append]
  refine TL.nil ?_
  -- the end
  exact ⟨_, ⟨⟨b, tg⟩, off, ws, size⟩ :: G, _, .nil, z_A, [⟨⟨b, tg⟩, off, ws, size⟩], rfl, rfl, ws, rfl, hws⟩

end Go.Proofs.YtlpkcbkflfbclaaGreatDoor.S
