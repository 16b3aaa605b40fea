/- More readings of what came in: lists of truths; arrays of slices of bytes. Holds for every program. -/
import Derived.Test.YtdgbckfnamiebaaOpen4
import Derived.ChangeMaps5
namespace Go.Proofs.Ytdgbckfnamiebaa.S
open Go.ChangeShapes Go.WideShapes Go.ChangeAt Go.RowKit Go.Deep

theorem rd_bool {H : Type} {enc : TypeId × Value → H} {P : Program} {W : World} {t : TypeId} {d : DataW H} {cs : List Value} (ht : P.underlying t = some .bool) (h : Tr enc P W t cs d) : ∃ b, cs = [.bool b] := by
  obtain ⟨fuel, p, h⟩ := h
  obtain ⟨b, h1, _⟩ := DataW.trod_bool ht h
  exact ⟨b, h1⟩
/-- A parameter that is a slice of truths. -/
theorem open_bools {H : Type} {enc : TypeId × Value → H} {P : Program} {W : World} {t e : TypeId} {v : Value} {d : DataW H} {p : List MemPlace} {b0 : Nat} {r : Reach} (ht : P.underlying t = some (.slice e)) (he : P.underlying e = some .bool) (hC : P.cellsOf e = 1) (hv : Value.okWide P W r b0 t v) (h : DataW.Trod enc P W 0 (fun _ => true) true t v d p) :
    ∃ l : List Bool, l.length ≤ maxLen ∧ SlR W v 1 l.length (l.map Value.bool) := by
  have hc := okW_cell (by rw [ht]; simp) (by rw [ht]; simp) hv
  obtain ⟨fuel, h⟩ := h
  have hcells : v.cells.toList = [v] := by
    unfold Cell.okWide Cell.ok at hc
    simp only [ht] at hc
    cases v <;> first | rfl | exact hc.elim
  rw [hcells] at h
  obtain ⟨n, ess, ds, hn, h1, h2, h3, h4, h5, h6⟩ := rd_slice ht hC hc ⟨fuel, p, h⟩
  have key : ∀ x ∈ ess, ∃ c : Bool, True ∧ x = [Value.bool c] := by
    intro x hx
    obtain ⟨i, hi', rfl⟩ := List.mem_iff_getElem.1 hx
    obtain ⟨c, hc⟩ := rd_bool he (h6 i _ _ (List.getElem?_eq_getElem hi') (List.getElem?_eq_getElem (by omega)))
    exact ⟨c, trivial, hc⟩
  obtain ⟨l, rfl, _⟩ := choose_map (fun c => [Value.bool c]) ess key
  have hfl : ∀ (l : List Bool), (l.map (fun c => [Value.bool c])).flatten = l.map Value.bool := by
    intro l
    induction l with
    | nil => rfl
    | cons c l ih => simp [ih]
  rw [hfl] at h4
  simp only [List.length_map] at h1
  subst h1
  exact ⟨l, hn, h4⟩
/-- A parameter that is an array of slices of bytes. -/
theorem open_arrp {H : Type} {enc : TypeId × Value → H} {P : Program} {W : World} {t s e : TypeId} {n : Nat} {v : Value} {d : DataW H} {p : List MemPlace} {b0 : Nat} {r : Reach} (ht : P.underlying t = some (.array n s)) (hs : P.underlying s = some (.slice e)) (he : P.underlying e = some (.int .u8)) (hCs : P.cellsOf s = 1) (hC : P.cellsOf e = 1) (hn : P.cellsOf t = n) (hv : Value.okWide P W r b0 t v) (h : DataW.Trod enc P W 0 (fun _ => true) true t v d p) :
    ∃ (l : List (Value × List UInt8)), l.length = n ∧ v = .agg (l.map (·.1)).toArray ∧ ∀ y ∈ l, y.2.length ≤ maxLen ∧ InR W y.1 y.2 := by
  unfold Value.okWide at hv
  rw [ht] at hv
  obtain ⟨cs0, rfl, hsz, _⟩ := hv
  obtain ⟨fuel, h⟩ := h
  replace h : DataW.trod enc P W 0 (fun _ => true) true fuel t cs0.toList = some (d, p) := h
  obtain ⟨cs, hcs⟩ : ∃ cs, cs = cs0.toList := ⟨_, rfl⟩
  rw [← hcs] at h
  obtain ⟨xs, m, _, _, hl, hxl, hi⟩ := DataW.trod_array ht h
  rw [hn] at hl
  have key : ∀ x ∈ cs, ∃ y : Value × List UInt8, (y.2.length ≤ maxLen ∧ InR W y.1 y.2) ∧ x = y.1 := by
    intro x hx
    obtain ⟨i, hi', rfl⟩ := List.mem_iff_getElem.1 hx
    have h1 := hi i (by omega)
    rw [hCs, Nat.mul_one, List.drop_eq_getElem_cons hi'] at h1
    simp only [List.take_succ_cons, List.take_zero] at h1
    rw [List.getElem?_eq_getElem (by omega)] at h1
    obtain ⟨q, hq1, hq2, _⟩ := rd_part (d := (xs[i]'(by omega)).1) hs he hC ⟨m, (xs[i]'(by omega)).2, h1⟩
    exact ⟨(cs[i], q), ⟨hq1, hq2⟩, rfl⟩
  obtain ⟨l, hlc, hall⟩ := choose_map (fun y : Value × List UInt8 => y.1) cs key
  refine ⟨l, by rw [← hl, hlc, List.length_map], ?_, hall⟩
  rw [← hlc, hcs]
/-- A parameter that is a text. -/
theorem open_text {H : Type} {enc : TypeId × Value → H} {P : Program} {W : World} {t : TypeId} {v : Value} {d : DataW H} {p : List MemPlace} {b0 : Nat} {r : Reach} (ht : P.underlying t = some .string) (hv : Value.okWide P W r b0 t v) (h : DataW.Trod enc P W 0 (fun _ => true) true t v d p) :
    ∃ l : List UInt8, v = .string (bstr l) ∧ d = .lit (.string l) ∧ p = [] ∧ l.length ≤ maxLen := by
  obtain ⟨s, rfl, rfl, rfl, hs⟩ := Go.ChangeMaps.open_string ht hv h
  exact ⟨s.data.toList, rfl, rfl, rfl, by simpa using hs⟩
/-- A parameter that is an array of numbers of 32 bits. -/
theorem open_u32s {H : Type} {enc : TypeId × Value → H} {P : Program} {W : World} {t e : TypeId} {n : Nat} {v : Value} {d : DataW H} {p : List MemPlace} {b0 : Nat} {r : Reach} (ht : P.underlying t = some (.array n e)) (he : P.underlying e = some (.int .u32)) (hC : P.cellsOf e = 1) (hn : P.cellsOf t = n) (hv : Value.okWide P W r b0 t v) (h : DataW.Trod enc P W 0 (fun _ => true) true t v d p) :
    ∃ l : List Nat, l.length = n ∧ v = .agg (l.map u32V).toArray ∧ ∀ x ∈ l, x < 4294967296 := by
  unfold Value.okWide at hv
  rw [ht] at hv
  obtain ⟨cs0, rfl, hsz, _⟩ := hv
  obtain ⟨fuel, h⟩ := h
  replace h : DataW.trod enc P W 0 (fun _ => true) true fuel t cs0.toList = some (d, p) := h
  obtain ⟨cs, hcs⟩ : ∃ cs, cs = cs0.toList := ⟨_, rfl⟩
  rw [← hcs] at h
  obtain ⟨xs, m, _, _, hl, hxl, hi⟩ := DataW.trod_array ht h
  rw [hn] at hl
  have key : ∀ x ∈ cs, ∃ c : Nat, c < 4294967296 ∧ x = u32V c := by
    intro x hx
    obtain ⟨i, hi', rfl⟩ := List.mem_iff_getElem.1 hx
    have h1 := hi i (by omega)
    rw [hC, Nat.mul_one, List.drop_eq_getElem_cons hi'] at h1
    simp only [List.take_succ_cons, List.take_zero] at h1
    rw [List.getElem?_eq_getElem (by omega)] at h1
    obtain ⟨c, hc, hcv⟩ := rd_u32 (d := (xs[i]'(by omega)).1) he ⟨m, (xs[i]'(by omega)).2, h1⟩
    exact ⟨c, hc, by simpa using hcv⟩
  obtain ⟨l, hlc, hall⟩ := choose_map u32V cs key
  refine ⟨l, by rw [← hl, hlc, List.length_map], ?_, hall⟩
  rw [← hlc, hcs]
end Go.Proofs.Ytdgbckfnamiebaa.S
