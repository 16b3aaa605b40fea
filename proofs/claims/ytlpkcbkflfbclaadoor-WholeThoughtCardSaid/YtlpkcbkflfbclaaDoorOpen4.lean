/- More readings of what came in: slices of slices of bytes. Holds for every program. -/
import Derived.Test.YtlpkcbkflfbclaaDoorOpen3
import Derived.Test.YtlpkcbkflfbclaaDoorOpsB
namespace Go.Proofs.YtlpkcbkflfbclaaDoor.S
open Go.ChangeShapes Go.WideShapes Go.ChangeAt Go.RowKit Go.Deep

theorem spot_none {W : World} {a : Addr} {v : Value} (h : W.cell? a = some v) : a.spot = none := by
  unfold World.cell? at h
  split at h
  · split at h
    · cases h
    · rename_i h'; simpa using h'
  · cases h

/-- A reading of a slice of bytes, and how long it is. -/
def lenD {H : Type} (d : DataW H) (p : List UInt8) : Prop := (d = .nil ∧ p = []) ∨ ∃ ds sp, d = .slice ds sp ∧ ds.length = p.length

/-- A slice of bytes that lies in another. -/
theorem rd_part {H : Type} {enc : TypeId × Value → H} {P : Program} {W : World} {t e : TypeId} {v : Value} {d : DataW H} (ht : P.underlying t = some (.slice e)) (he : P.underlying e = some (.int .u8)) (hC : P.cellsOf e = 1) (h : Tr enc P W t [v] d) :
    ∃ p : List UInt8, p.length ≤ maxLen ∧ InR W v p ∧ lenD d p := by
  obtain ⟨fuel, pl, h0⟩ := h
  have odd : (∃ a, v = .slice (some a) 0 0 ∧ ∃ ds sp, d = .slice ds sp ∧ ds.length = 0) ∨ ∀ a len cap, v = .slice (some a) len cap → a.spot = none := by
    rcases open_slice ht h0 with ⟨h1, h2⟩ | ⟨a, len, cap, m, n, D, Pl, hcs, hb, hl, hm, hmm, hx, hi⟩
    · simp only [List.cons.injEq, and_true] at h1
      subst h1
      exact .inr (fun a len cap hv => by cases hv)
    · simp only [List.cons.injEq, and_true] at hcs
      subst hcs
      have hmc : m = cap := by simpa using hmm
      subst hmc
      by_cases h0 : m = 0
      · subst h0
        obtain rfl : len = 0 := by omega
        exact .inl ⟨a, rfl, _, _, (Prod.mk.inj hx).1, by simp⟩
      · refine .inr (fun a' len' cap' hv => ?_)
        cases hv
        obtain ⟨cs', hc, _⟩ := hi 0 (by omega)
        rw [hC] at hc
        have := (World.cells?_some hc).2.2 0 (by omega)
        rw [Nat.zero_mul] at this
        have e0 : (a.add 0).add 0 = a := rfl
        rw [e0] at this
        obtain ⟨x, hx'⟩ : ∃ x, W.cell? a = some x := by
          have hl1 := (World.cells?_some hc).2.1
          rw [List.getElem?_eq_getElem (by omega)] at this
          exact ⟨_, this⟩
        exact spot_none hx'
  rcases odd with ⟨a, rfl, ds, sp, rfl, hd⟩ | hsp
  · exact ⟨[], Nat.zero_le _, .inr ⟨rfl, a, rfl⟩, .inr ⟨ds, sp, rfl, by simpa using hd⟩⟩
  · obtain ⟨n, ess, ds, hn, h1, h2, h3, h4, h5, h6⟩ := rd_slice0 ht hC hsp ⟨fuel, pl, h0⟩
    have key : ∀ x ∈ ess, ∃ c : UInt8, True ∧ x = [byteV c] := by
      intro x hx
      obtain ⟨i, hi', rfl⟩ := List.mem_iff_getElem.1 hx
      obtain ⟨c, hc⟩ := rd_u8 he (h6 i _ _ (List.getElem?_eq_getElem hi') (List.getElem?_eq_getElem (by omega)))
      exact ⟨c, trivial, hc⟩
    obtain ⟨l, rfl, _⟩ := choose_map (fun c => [byteV c]) ess key
    have hfl : ∀ (l : List UInt8), (l.map (fun c => [byteV c])).flatten = l.map byteV := by
      intro l
      induction l with
      | nil => rfl
      | cons c l ih => simp [ih]
    rw [hfl] at h4
    simp only [List.length_map] at h1
    subst h1
    refine ⟨l, hn, .inl h4, ?_⟩
    rcases h3 with ⟨rfl, rfl⟩ | ⟨sp, rfl⟩
    · exact .inl ⟨rfl, List.eq_nil_of_length_eq_zero (by simpa using h2.symm)⟩
    · exact .inr ⟨ds, sp, rfl, h2⟩

/-- Parts that came in. -/
structure PartsIn (w0 : World) (v : Value) (svs : List Value) (ps : List (List UInt8)) : Prop where
  len : svs.length = ps.length
  all : SlR w0 v 1 ps.length svs
  each : ∀ (i : Nat) (sv : Value) (p : List UInt8), svs[i]? = some sv → ps[i]? = some p → InR w0 sv p
theorem PartsIn.form {w0 : World} {v : Value} {svs : List Value} {ps : List (List UInt8)} (h : PartsIn w0 v svs ps) : ∃ a c, v = .slice a ps.length c := h.all.form
theorem PartsIn.parts {w0 : World} {v : Value} {svs : List Value} {ps : List (List UInt8)} {Ps : List Blk} (h : PartsIn w0 v svs ps) : PartsR w0 Ps v ps :=
  ⟨h.form, svs, h.len, fun C h0 hm L _ => by subst h0; exact h.all.src hm, fun i sv p h1 h2 => (h.each i sv p h1 h2).part⟩

/-- A parameter that is a slice of slices of bytes. -/
theorem open_parts {H : Type} {enc : TypeId × Value → H} {P : Program} {W : World} {t s e : TypeId} {v : Value} {d : DataW H} {p : List MemPlace} {b0 : Nat} {r : Reach} (ht : P.underlying t = some (.slice s)) (hs : P.underlying s = some (.slice e)) (he : P.underlying e = some (.int .u8)) (hCs : P.cellsOf s = 1) (hC : P.cellsOf e = 1) (hv : Value.okWide P W r b0 t v) (h : DataW.Trod enc P W 0 (fun _ => true) true t v d p) :
    ∃ (svs : List Value) (ps : List (List UInt8)), PartsIn W v svs ps ∧ ps.length ≤ maxLen ∧ (∀ p ∈ ps, p.length ≤ maxLen) ∧
      ((d = .nil ∧ ps = []) ∨ ∃ ds sp, d = .slice ds sp ∧ ds.length = ps.length ∧ ∀ (i : Nat) (x : DataW H) (p : List UInt8), ds[i]? = some x → ps[i]? = some p → lenD x p) := by
  have hc := okW_cell (by rw [ht]; simp) (by rw [ht]; simp) hv
  obtain ⟨fuel, h⟩ := h
  have hcells : v.cells.toList = [v] := by
    unfold Cell.okWide Cell.ok at hc
    simp only [ht] at hc
    cases v <;> first | rfl | exact hc.elim
  rw [hcells] at h
  obtain ⟨n, ess, ds, hn, h1, h2, h3, h4, h5, h6⟩ := rd_slice ht hCs hc ⟨fuel, p, h⟩
  have key : ∀ x ∈ ess.zip ds, ∃ y : Value × List UInt8 × DataW H, (y.2.1.length ≤ maxLen ∧ InR W y.1 y.2.1 ∧ lenD y.2.2 y.2.1) ∧ x = ([y.1], y.2.2) := by
    intro x hx
    obtain ⟨i, hi', rfl⟩ := List.mem_iff_getElem.1 hx
    rw [List.length_zip] at hi'
    have ha := List.getElem?_eq_getElem (l := ess) (i := i) (by omega)
    have hb := List.getElem?_eq_getElem (l := ds) (i := i) (by omega)
    have hl := h5 _ (List.getElem_mem (l := ess) (n := i) (by omega))
    obtain ⟨sv, hsv⟩ : ∃ sv, ess[i] = [sv] := List.length_eq_one_iff.1 hl
    have ht' := h6 i _ _ ha hb
    rw [hsv] at ht'
    obtain ⟨q, hq1, hq2, hq3⟩ := rd_part hs he hC ht'
    exact ⟨(sv, q, ds[i]), ⟨hq1, hq2, hq3⟩, by rw [List.getElem_zip, hsv]⟩
  obtain ⟨l, hl, hall⟩ := choose_map (fun y : Value × List UInt8 × DataW H => ([y.1], y.2.2)) (ess.zip ds) key
  have he1 : ess = l.map (fun y => [y.1]) := by
    have := congrArg (List.map Prod.fst) hl
    rw [List.map_fst_zip (by omega), List.map_map] at this
    exact this
  have he2 : ds = l.map (fun y => y.2.2) := by
    have := congrArg (List.map Prod.snd) hl
    rw [List.map_snd_zip (by omega), List.map_map] at this
    exact this
  have hfl : ∀ (l : List (Value × List UInt8 × DataW H)), (l.map (fun y => [y.1])).flatten = l.map (·.1) := by
    intro l
    induction l with
    | nil => rfl
    | cons c l ih => simp [ih]
  have hln : l.length = n := by rw [← h1, he1, List.length_map]
  refine ⟨l.map (·.1), l.map (·.2.1), ⟨by simp, ?_, ?_⟩, by simpa [hln] using hn, ?_, ?_⟩
  · rw [he1, hfl] at h4
    rw [List.length_map, hln]; exact h4
  · intro i sv q hi hq
    rw [List.getElem?_map] at hi hq
    obtain ⟨y, hy, rfl⟩ := Option.map_eq_some_iff.1 hi
    rw [hy] at hq
    cases hq
    exact (hall y (List.mem_of_getElem? hy)).2.1
  · intro q hq
    obtain ⟨y, hy, rfl⟩ := List.mem_map.1 hq
    exact (hall y hy).1
  · rcases h3 with ⟨hd, hds⟩ | ⟨sp, hd⟩
    · refine .inl ⟨hd, ?_⟩
      have : l = [] := by
        rw [hds] at he2
        exact List.map_eq_nil_iff.1 he2.symm
      rw [this]; rfl
    · refine .inr ⟨ds, sp, hd, by rw [he2]; simp, ?_⟩
      intro i x q hx hq
      rw [he2, List.getElem?_map] at hx
      rw [List.getElem?_map] at hq
      obtain ⟨y, hy, rfl⟩ := Option.map_eq_some_iff.1 hx
      rw [hy] at hq
      cases hq
      exact (hall y (List.mem_of_getElem? hy)).2.2
end Go.Proofs.YtlpkcbkflfbclaaDoor.S
