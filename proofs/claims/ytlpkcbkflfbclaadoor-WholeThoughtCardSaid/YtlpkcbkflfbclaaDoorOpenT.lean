/- Terms that came in, opened: a type whose values hold slices of their own type. Holds for every program. -/
import Derived.Test.YtlpkcbkflfbclaaDoorOpen5
import Derived.Test.YtlpkcbkflfbclaaDoorTmMem
namespace Go.Proofs.YtlpkcbkflfbclaaDoor.S
open Go.ChangeShapes Go.WideShapes Go.ChangeAt Go.RowKit Go.Deep

/-- The types of which terms are made. -/
structure TmTy (P : Program) (TM TS INT STR : TypeId) : Prop where
  st : structIs P TM [(INT, 0), (STR, 1), (TS, 2)] = true
  sl : P.underlying TS = some (.slice TM)
  int : P.underlying INT = some (.int .i64)
  str : P.underlying STR = some .string
  ci : P.cellsOf INT = 1
  cs : P.cellsOf STR = 1
  cl : P.cellsOf TS = 1
  ct : P.cellsOf TM = 3
  by48 : 2 ≤ P.bytesOf TM
/-- Each slice and text of a reading is of a size that may be. -/
def Wt {H : Type} (P : Program) (t : TypeId) (d : DataW H) : Prop := ∀ n ∈ DataW.weights P t d, n ≤ reachBytes
section
variable {H : Type} {enc : TypeId × Value → H} {P : Program} {W : World} {TM TS INT STR : TypeId}
theorem Wt.fld {l : List (TypeId × Nat)} {xs : List (DataW H)} {t : TypeId} (hs : structIs P t l = true) (h : Wt P t (.agg xs)) {j : Nat} {q : TypeId × Nat} {y : DataW H} (hq : l[j]? = some q) (hy : xs[j]? = some y) : Wt P q.1 y := by
  obtain ⟨fs, hfs, rfl⟩ := structIs_spec hs
  intro n hn
  refine h n ?_
  simp only [DataW.weights, hfs]
  refine DataW.weights_mem_each (j := j) (t := q.1) (d := y) ?_ hy n hn
  rw [List.getElem?_map] at hq ⊢
  obtain ⟨f, hf, rfl⟩ := Option.map_eq_some_iff.1 hq
  rw [hf]; rfl
theorem weights_all_mem {e : TypeId} : ∀ {ds : List (DataW H)} {d : DataW H}, d ∈ ds → ∀ n ∈ d.weights P e, n ∈ DataW.weightsAll P e ds
  | x :: ds, d, h, n, hn => by
    rw [DataW.weightsAll]
    rcases List.mem_cons.1 h with rfl | h
    · exact List.mem_append_left _ hn
    · exact List.mem_append_right _ (weights_all_mem h n hn)
theorem Wt.elem {t e : TypeId} {ds sp : List (DataW H)} {d : DataW H} (ht : P.underlying t = some (.slice e)) (h : Wt P t (.slice ds sp)) (hd : d ∈ ds) : Wt P e d := by
  intro n hn
  refine h n ?_
  simp only [DataW.weights, ht]
  exact List.mem_cons_of_mem _ (List.mem_append_left _ (weights_all_mem hd n hn))
theorem Wt.len {t e : TypeId} {ds sp : List (DataW H)} (ht : P.underlying t = some (.slice e)) (h : Wt P t (.slice ds sp)) : ds.length * P.bytesOf e ≤ reachBytes := by
  have := h ((ds.length + sp.length) * P.bytesOf e) (by simp [DataW.weights, ht])
  exact Nat.le_trans (Nat.mul_le_mul_right _ (Nat.le_add_right _ _)) this
/-- A slice inside another value: it may be odd where it has no place at all. -/
theorem rd_slR {t e : TypeId} {k : Nat} {v : Value} {d : DataW H} (ht : P.underlying t = some (.slice e)) (hC : P.cellsOf e = k) (hk : 0 < k) (h : Tr enc P W t [v] d) :
    ∃ (n : Nat) (ess : List (List Value)) (ds : List (DataW H)), ess.length = n ∧ ds.length = n ∧ ((d = .nil ∧ ds = []) ∨ ∃ sp, d = .slice ds sp) ∧ RowR W [] k v n ess.flatten ∧
      ∀ (i : Nat) (es : List Value) (x : DataW H), ess[i]? = some es → ds[i]? = some x → Tr enc P W e es x := by
  obtain ⟨fuel, pl, h0⟩ := h
  have odd : (∃ a, v = .slice (some a) 0 0 ∧ ∃ ds sp, d = .slice ds sp ∧ ds.length = 0) ∨ ∀ a len cap, v = .slice (some a) len cap → a.spot = none := by
    rcases open_slice ht h0 with ⟨h1, h2⟩ | ⟨a, len, cap, m, n, D, Pl, hcs, hb, hl, hm, hmm, hx, hi⟩
    · simp only [List.cons.injEq, and_true] at h1
      subst h1
      exact .inr (fun a len cap hv => by cases hv)
    · simp only [List.cons.injEq, and_true] at hcs
      subst hcs
      have hmc : m = cap := by simpa using hmm
      subst hmc
      by_cases h0 : m = 0
      · subst h0
        obtain rfl : len = 0 := by omega
        exact .inl ⟨a, rfl, _, _, (Prod.mk.inj hx).1, by simp⟩
      · refine .inr (fun a' len' cap' hv => ?_)
        cases hv
        obtain ⟨cs', hc, _⟩ := hi 0 (by omega)
        rw [hC] at hc
        have := (World.cells?_some hc).2.2 0 (by omega)
        rw [Nat.zero_mul] at this
        have e0 : (a.add 0).add 0 = a := rfl
        rw [e0] at this
        obtain ⟨x, hx'⟩ : ∃ x, W.cell? a = some x := by
          have hl1 := (World.cells?_some hc).2.1
          rw [List.getElem?_eq_getElem (by omega)] at this
          exact ⟨_, this⟩
        exact spot_none hx'
  rcases odd with ⟨a, rfl, ds, sp, rfl, hd⟩ | hsp
  · exact ⟨0, [], ds, rfl, hd, .inr ⟨sp, rfl⟩, RowR.odd, fun i es x h => by simp at h⟩
  · obtain ⟨n, ess, ds, hn, h1, h2, h3, h4, h5, h6⟩ := rd_slice0 ht hC hsp ⟨fuel, pl, h0⟩
    exact ⟨n, ess, ds, h1, h2, h3, RowR.old h4, h6⟩
theorem choose_tms {ess : List (List Value)} (h : ∀ es ∈ ess, ∃ t, TmR W [] t es) : ∃ ts : List Tm, ts.length = ess.length ∧ TmsR W [] ts ess.flatten := by
  induction ess with
  | nil => exact ⟨[], rfl, TmsR.nil⟩
  | cons es ess ih =>
    obtain ⟨t, ht⟩ := h es (by simp)
    obtain ⟨ts, hl, hts⟩ := ih fun x hx => h x (by simp [hx])
    exact ⟨t :: ts, by simp [hl], TmsR.cons ht hts⟩
/-- A slice of terms, if each of its readings is of a term. -/
theorem rd_tms_of (hT : TmTy P TM TS INT STR) {v : Value} {d : DataW H} (h : Tr enc P W TS [v] d) (hw : Wt P TS d) (ih : ∀ ds sp, d = .slice ds sp → ∀ x ∈ ds, ∀ cs, Tr enc P W TM cs x → ∃ t, TmR W [] t cs) :
    ∃ a c ts vs, v = .slice a ts.length c ∧ RowR W [] 3 v ts.length vs ∧ TmsR W [] ts vs ∧ ts.length * P.bytesOf TM ≤ reachBytes := by
  obtain ⟨n, ess, ds, h1, h2, h3, h4, h5⟩ := rd_slR hT.sl hT.ct (by decide) h
  obtain ⟨ts, hl, hts⟩ := choose_tms (W := W) (ess := ess) fun es hes => by
    obtain ⟨i, hi, rfl⟩ := List.mem_iff_getElem.1 hes
    have hd := List.getElem?_eq_getElem (l := ds) (i := i) (by omega)
    rcases h3 with ⟨rfl, rfl⟩ | ⟨sp, rfl⟩
    · simp only [List.length_nil] at h2; omega
    · exact ih ds sp rfl _ (List.mem_of_getElem? hd) _ (h5 i _ _ (List.getElem?_eq_getElem hi) hd)
  obtain ⟨a, c, rfl⟩ := h4.form
  refine ⟨a, c, ts, ess.flatten, by rw [hl, h1], by rw [hl, h1]; exact h4, hts, ?_⟩
  rcases h3 with ⟨rfl, rfl⟩ | ⟨sp, rfl⟩
  · simp only [List.length_nil] at h2; rw [hl, h1, ← h2]; simp
  · rw [hl, h1, ← h2]; exact hw.len hT.sl
theorem rd_tmN (hT : TmTy P TM TS INT STR) : ∀ (m : Nat) (d : DataW H) (cs : List Value), SizeOf.sizeOf d < m → Tr enc P W TM cs d → Wt P TM d → ∃ t, TmR W [] t cs := by
  intro m
  induction m with
  | zero => intro d cs hm; omega
  | succ m ih =>
  intro d cs hm h hw
  obtain ⟨xs, rfl, hxl, hcl, hf⟩ := rd_struct hT.st h
  obtain ⟨y0, hy0, h0⟩ := hf 0 (INT, 0) rfl
  obtain ⟨y1, hy1, h1⟩ := hf 1 (STR, 1) rfl
  obtain ⟨y2, hy2, h2⟩ := hf 2 (TS, 2) rfl
  rw [hT.ct] at hcl
  match cs, hcl, h0, h1, h2 with
  | [v0, v1, v2], _, h0, h1, h2 =>
    simp only [hT.ci, hT.cs, hT.cl, List.drop_zero, List.drop_succ_cons, List.take_succ_cons, List.take_zero] at h0 h1 h2
    obtain ⟨k, hk, _⟩ := rd_int hT.int h0
    obtain ⟨fuel, p, h1⟩ := h1
    obtain ⟨s, hs, _, _⟩ := DataW.trod_string hT.str h1
    have hw2 : Wt P TS y2 := hw.fld hT.st (j := 2) (q := (TS, 2)) rfl hy2
    obtain ⟨a, c, ts, vs, rfl, hr, ht, hb⟩ := rd_tms_of hT h2 hw2 (fun ds sp he x hx cs hc => ih x cs (by
      subst he
      have e1 := List.sizeOf_lt_of_mem (List.mem_of_getElem? hy2)
      have e2 := List.sizeOf_lt_of_mem hx
      simp only [DataW.slice.sizeOf_spec, DataW.agg.sizeOf_spec] at *
      omega) hc ((he ▸ hw2).elem hT.sl hx))
    cases hk; cases hs
    have h48 := hT.by48
    refine ⟨.mk k s.data.toList ts, TmR.mk hr ?_ ht⟩
    unfold reachBytes at hb
    unfold maxN
    have := Nat.mul_le_mul_left ts.length h48
    omega
theorem rd_tm (hT : TmTy P TM TS INT STR) (d : DataW H) {cs : List Value} (h : Tr enc P W TM cs d) (hw : Wt P TM d) : ∃ t, TmR W [] t cs := rd_tmN hT _ d cs (Nat.lt_succ_self _) h hw
/-- A parameter that is a term. -/
theorem open_tm (hT : TmTy P TM TS INT STR) {ts : List TypeId} (hts : P.cellTypes P.depth TM = some ts) {v : Value} {d : DataW H} {p : List MemPlace} {b0 : Nat} {r : Reach} (hv : Value.okWide P W r b0 TM v) (h : DataW.Trod enc P W 0 (fun _ => true) true TM v d p) (hw : Wt P TM d) :
    ∃ t cs, v = .agg cs.toArray ∧ TmR W [] t cs := by
  obtain ⟨cs, rfl, hl, _⟩ := okW_struct hT.st hts hv
  obtain ⟨fuel, h⟩ := h
  obtain ⟨t, ht⟩ := rd_tm (enc := enc) (W := W) hT d (cs := cs) ⟨fuel, p, h⟩ hw
  exact ⟨t, cs, rfl, ht⟩
/-- A parameter that is a slice of terms. -/
theorem open_tms (hT : TmTy P TM TS INT STR) {v : Value} {d : DataW H} {p : List MemPlace} {b0 : Nat} {r : Reach} (hv : Value.okWide P W r b0 TS v) (h : DataW.Trod enc P W 0 (fun _ => true) true TS v d p) (hw : Wt P TS d) :
    ∃ a c ts vs, v = .slice a ts.length c ∧ RowR W [] 3 v ts.length vs ∧ TmsR W [] ts vs ∧ ts.length * P.bytesOf TM ≤ reachBytes := by
  have hc := okW_cell (by rw [hT.sl]; simp) (by rw [hT.sl]; simp) hv
  obtain ⟨fuel, h⟩ := h
  have hcells : v.cells.toList = [v] := by
    unfold Cell.okWide Cell.ok at hc
    simp only [hT.sl] at hc
    cases v <;> first | rfl | exact hc.elim
  rw [hcells] at h
  exact rd_tms_of hT ⟨fuel, p, h⟩ hw (fun ds sp he x hx cs hx' => rd_tm hT x hx' ((he ▸ hw).elem hT.sl hx))
/-- A parameter that is five truths. -/
theorem open_five {t e : TypeId} {v : Value} {d : DataW H} {p : List MemPlace} {b0 : Nat} {r : Reach} (ht : P.underlying t = some (.array 5 e)) (he : P.underlying e = some .bool) (hC : P.cellsOf e = 1) (hn : P.cellsOf t = 5) (hv : Value.okWide P W r b0 t v) (h : DataW.Trod enc P W 0 (fun _ => true) true t v d p) :
    ∃ h0 h1 h2 h3 h4 : Bool, v = .agg (List.toArray [.bool h0, .bool h1, .bool h2, .bool h3, .bool h4]) := by
  unfold Value.okWide at hv
  rw [ht] at hv
  obtain ⟨cs0, rfl, hsz, _⟩ := hv
  obtain ⟨fuel, h⟩ := h
  replace h : DataW.trod enc P W 0 (fun _ => true) true fuel t cs0.toList = some (d, p) := h
  obtain ⟨cs, hcs⟩ : ∃ cs, cs = cs0.toList := ⟨_, rfl⟩
  rw [← hcs] at h
  obtain ⟨xs, m, _, _, hl, hxl, hi⟩ := DataW.trod_array ht h
  rw [hn] at hl
  have key : ∀ x ∈ cs, ∃ c : Bool, True ∧ x = Value.bool c := by
    intro x hx
    obtain ⟨i, hi', rfl⟩ := List.mem_iff_getElem.1 hx
    have h1 := hi i (by omega)
    rw [hC, Nat.mul_one, List.drop_eq_getElem_cons hi'] at h1
    simp only [List.take_succ_cons, List.take_zero] at h1
    rw [List.getElem?_eq_getElem (by omega)] at h1
    obtain ⟨c, hc⟩ := rd_bool (d := (xs[i]'(by omega)).1) he ⟨m, (xs[i]'(by omega)).2, h1⟩
    exact ⟨c, trivial, by simpa using hc⟩
  obtain ⟨l, hlc, _⟩ := choose_map Value.bool cs key
  have hll : l.length = 5 := by rw [← hl, hlc, List.length_map]
  match l, hll with
  | [h0, h1, h2, h3, h4], _ => exact ⟨h0, h1, h2, h3, h4, by rw [show cs0 = cs.toArray by rw [hcs], hlc]; rfl⟩
theorem Wt.of {ts : List TypeId} {ds : List (DataW H)} (h : (DataW.weightsEach P ts ds).all (· ≤ reachBytes) = true) {j : Nat} {t : TypeId} {d : DataW H} (ht : ts[j]? = some t) (hd : ds[j]? = some d) : Wt P t d := fun n hn => by
  have := List.all_eq_true.1 h n (DataW.weights_mem_each ht hd n hn)
  simpa using this
end
end Go.Proofs.YtlpkcbkflfbclaaDoor.S
