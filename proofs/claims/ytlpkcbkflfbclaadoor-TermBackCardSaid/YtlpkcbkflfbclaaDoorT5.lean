/- Terms sorted. -/
import Derived.Test.YtlpkcbkflfbclaaDoorT4
import Derived.Test.YtlpkcbkflfbclaaDoorSortLay
namespace Go.Proofs.YtlpkcbkflfbclaaDoor.S
open Go.RowKit

open Go.Sort
/-- A term of a row, with its cells. -/
abbrev It (w0 : World) (Ps : List Blk) : Type := { p : Tm × List Value // TmR w0 Ps p.1 p.2 }
def encI {w0 : World} {Ps : List Blk} (x : It w0 Ps) : List Value := x.1.2
def cfI {w0 : World} {Ps : List Blk} (x y : It w0 Ps) : Int := cmpT x.1.1 y.1.1
theorem encI_len {w0 : World} {Ps : List Blk} (x : It w0 Ps) : (encI x).length = 3 := x.2.len
theorem encI_one {w0 : World} {Ps : List Blk} (x : It w0 Ps) : ∀ v ∈ encI x, v.oneCell' = true := fun v hv => by
  have := x.2.ones v hv
  cases v <;> first | rfl | cases this
theorem has15 (w : World) (args : Array Value) : (callFunc 15 args).run P w = .ok (.enter 15 args) w := run_callFunc has_15 args w
theorem cmpLays {w0 w : World} {Ps G : List Blk} {b off size : Nat} {tg : Option TypeId} {cells : List Value} [Inhabited (It w0 Ps)] (hst : St w0 [] (⟨⟨b, tg⟩, off, cells, size⟩ :: G) w) (hi : Inc Ps G) (n : Nat) : CmpLays P 15 #[] encI 3 (cfI (w0 := w0) (Ps := Ps)) b off n w := by
  intro m os dk _ x y
  have hs := hst.sorting encI 3 off m dk os
  have hx := TmR.rebase hi hs P x.2
  have hy := TmR.rebase hi hs P y.2
  have := (Compare_any _ x.1.1 y.1.1 [] _ _ hx hy).fn (by simp) (by simp)
  refine this.mono ?_
  rintro en w' ⟨v, Y, rfl, h1, rfl⟩
  exact ⟨rfl, grown_of_st (h1.sub (List.nil_sublist _))⟩
/-- Two terms, stably. -/
theorem insTwo_any (w0 : World) (Ps : List Blk) {b off cap size : Nat} {tg : Option TypeId} {x y : Tm} {vs : List Value} (h : TmsR w0 Ps [x, y] vs) :
    FnG P 76 [.slice (some ⟨b, off, none⟩) 2 cap, .int .i64 0, .int .i64 2, .func (.func 15) #[] #[]] w0 Ps [⟨⟨b, tg⟩, off, vs, size⟩] fun v Y => v = .tuple #[] ∧ ∃ ws, Y = [⟨⟨b, tg⟩, off, ws, size⟩] ∧ TmsR w0 Ps (two [x, y]) ws := by
  intro G w hG hst
  replace hst : St w0 [] (⟨⟨b, tg⟩, off, vs, size⟩ :: G) w := hst
  obtain ⟨es, hes, rfl⟩ := h.items
  obtain ⟨e0, e1, rfl⟩ : ∃ e0 e1, es = [e0, e1] := by
    match es, hes with
    | [e0, e1], _ => exact ⟨e0, e1, rfl⟩
  have hx : e0.1.1 = x := by simpa using (List.cons.inj hes).1
  have hy : e1.1.1 = y := by simpa using (List.cons.inj (List.cons.inj hes).2).1
  haveI : Inhabited (It w0 Ps) := ⟨e0⟩
  have hfl : (flatK (encI (w0 := w0) (Ps := Ps)) 3 [e0, e1].toArray).toList = ([e0, e1].map (·.1.2)).flatten := by rw [flatK_list encI 3 encI_len (by decide)]; rfl
  obtain ⟨hH, hb⟩ := holds_of_st encI 3 hst [e0, e1].toArray hfl
  have key := AnyQ.insertionSortCmpFunc (ρ := sortLayRen) { sortLay with } 3 Go.Proofs.Tryd.isAgg26 Go.Proofs.Tryd.sizeOf26 encI encI_len encI_one (cfI (w0 := w0) (Ps := Ps)) 15 #[] b off cap 0 2 [e0, e1].toArray w (fun args w => has15 w args) (cmpLays hst hG _) hH hb (by decide) (by simp) (by simp)
  refine Calls.mono (f := 76) key ?_
  rintro en w' ⟨rfl, n, os, rfl⟩
  have hd : (Sort.insertionSort (ltOf (cfI (w0 := w0) (Ps := Ps))) [e0, e1].toArray 0 2).toList = if cmpT y x < 0 then [e1, e0] else [e0, e1] := by
    have hio : Sort.insertionSort (ltOf (cfI (w0 := w0) (Ps := Ps))) [e0, e1].toArray 0 2 = if ltOf cfI e1 e0 then swp [e0, e1].toArray 1 0 else [e0, e1].toArray := by
      unfold Sort.insertionSort
      rw [Sort.insOuter, if_pos (by decide), Sort.insOuter, if_neg (by decide), Sort.insInner, Sort.insInner]
      simp
    rw [hio]
    unfold ltOf cfI
    rw [hx, hy]
    by_cases hc : cmpT y x < 0
    · simp [hc, swp]
    · simp [hc]
  refine ⟨.tuple #[], [⟨⟨b, tg⟩, off, ((Sort.insertionSort (ltOf (cfI (w0 := w0) (Ps := Ps))) [e0, e1].toArray 0 2).toList.map (·.1.2)).flatten, size⟩], rfl, ?_, rfl, _, rfl, ?_⟩
  · refine hst.sorted encI 3 n _ os (by rw [flatK_list encI 3 encI_len (by decide)]; rfl) ?_
    have l2 := (TmsR.ofItems [e0, e1]).len
    have l1 := (TmsR.ofItems (Sort.insertionSort (ltOf (cfI (w0 := w0) (Ps := Ps))) [e0, e1].toArray 0 2).toList).len
    rw [l1, l2, hd]; split <;> rfl
  · have := TmsR.ofItems (Sort.insertionSort (ltOf (cfI (w0 := w0) (Ps := Ps))) [e0, e1].toArray 0 2).toList
    have e : (Sort.insertionSort (ltOf (cfI (w0 := w0) (Ps := Ps))) [e0, e1].toArray 0 2).toList.map (·.1.1) = two [x, y] := by
      rw [hd, two]; split <;> simp [hx, hy]
    rwa [e] at this

set_option maxRecDepth 100000 in
theorem stable_any (w0 : World) (Ps : List Blk) {b off cap size : Nat} {tg : Option TypeId} {x y : Tm} {vs : List Value} (h : TmsR w0 Ps [x, y] vs) : FnG P 56 [.slice (some ⟨b, off, none⟩) 2 cap, .int .i64 2, .func (.func 15) #[] #[]] w0 Ps [(⟨⟨b, tg⟩, off, vs, size⟩ : Blk)] (fun v Y => v = .tuple #[] ∧ ∃ ws, Y = [⟨⟨b, tg⟩, off, ws, size⟩] ∧ TmsR w0 Ps (two [x, y]) ws) := by
  refine FnG.of 63 [] Go.Proofs.Tryd.func56 rfl rfl rfl rfl (fun G hG => ?_)
  simp only [List.cons_append, List.nil_append]
  refine T.seq ?_
  refine T.region ?_
  refine TL.cons rfl (V1.t (V1.assign' z_D) ?_)
  refine TL.nil ?_
  refine T.seq ?_
  refine T.region ?_
  refine TL.cons rfl (V1.t (V1.move' z_D) ?_)
  refine TL.cons rfl (V1.t (V1.assign' z_D) ?_)
  refine TL.cons rfl (V1.t (V1.assign' z_D) ?_)
  refine TL.nil ?_
  refine T.seq ?_
  refine T.block ?_
  refine T.rounds 1 (TR.step ?_)
  refine T.seq ?_
  refine T.seq ?_
  refine T.region ?_
  refine TL.cons rfl (V1.t (V1.move' z_D) ?_)
  refine TL.cons rfl (V1.t (V1.move' z_D) ?_)
  refine TL.cons rfl (V1.t (V1.leI (r := false) rfl rfl (by decide)) ?_)
  refine TL.nil ?_
  refine T.cond_f rfl ?_
  refine T.exit ?_
  refine T.seq ?_
  refine T.region ?_
  refine TL.cons rfl (V1.t (V1.move' z_D) ?_)
  refine TL.cons rfl (V1.t (V1.move' z_D) ?_)
  refine TL.cons rfl (V1.t (V1.move' z_D) ?_)
  refine TL.cons rfl (V1.t (V1.move' z_D) ?_)
  refine TL.cons rfl (T1.callM (X := [(⟨⟨b, tg⟩, off, vs, size⟩ : Blk)]) has_76 rfl rfl (insTwo_any w0 Ps h) z_A z_E (fun v_ Y_ hY => ?_))
  obtain ⟨rfl, ws, rfl, hws⟩ := hY
  simp only [List.cons_append, List.nil_append]
  refine TL.nil ?_
  refine T.block ?_
  refine T.rounds 1 (TR.step ?_)
  refine T.seq ?_
  refine T.seq ?_
  refine T.region ?_
  refine TL.cons rfl (V1.t (V1.move' z_D) ?_)
  refine TL.cons rfl (V1.t (V1.move' z_D) ?_)
  refine TL.cons rfl (V1.t (V1.ltI (r := false) rfl rfl (by decide)) ?_)
  refine TL.nil ?_
  refine T.cond_f rfl ?_
  refine T.exit ?_
  -- the end
  exact ⟨_, ⟨⟨b, tg⟩, off, ws, size⟩ :: G, _, .nil, z_A, [⟨⟨b, tg⟩, off, ws, size⟩], rfl, rfl, ws, rfl, hws⟩

set_option maxRecDepth 100000 in
theorem Stable_any (w0 : World) (Ps : List Blk) {b off cap size : Nat} {tg : Option TypeId} {x y : Tm} {vs : List Value} (h : TmsR w0 Ps [x, y] vs) : FnG P 36 [.slice (some ⟨b, off, none⟩) 2 cap, .func (.func 15) #[] #[]] w0 Ps [(⟨⟨b, tg⟩, off, vs, size⟩ : Blk)] (fun v Y => v = .tuple #[] ∧ ∃ ws, Y = [⟨⟨b, tg⟩, off, ws, size⟩] ∧ TmsR w0 Ps (two [x, y]) ws) := by
  refine FnG.of 9 [] Go.Proofs.Tryd.func36 rfl rfl rfl rfl (fun G hG => ?_)
  simp only [List.cons_append, List.nil_append]
  refine T.region ?_
  refine TL.cons rfl (V1.t (V1.move' z_D) ?_)
  refine TL.cons rfl (V1.t (V1.move' z_D) ?_)
  refine TL.cons rfl (V1.t (V1.lenSl ty_23 rfl) ?_)
  refine TL.cons rfl (V1.t (V1.move' z_D) ?_)
  refine TL.cons rfl (T1.callM (X := [(⟨⟨b, tg⟩, off, vs, size⟩ : Blk)]) has_56 rfl rfl (stable_any w0 Ps h) z_A z_E (fun v_ Y_ hY => ?_))
  obtain ⟨rfl, ws, rfl, hws⟩ := hY
  simp only [List.cons_append, List.nil_append]
  refine TL.nil ?_
  -- the end
  exact ⟨_, ⟨⟨b, tg⟩, off, ws, size⟩ :: G, _, .nil, z_A, [⟨⟨b, tg⟩, off, ws, size⟩], rfl, rfl, ws, rfl, hws⟩

end Go.Proofs.YtlpkcbkflfbclaaDoor.S
