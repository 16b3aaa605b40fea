/- More readings of what came in: arrays. Holds for every program. -/
import Derived.Test.YtlpkcbkflfbclaaDoorOpen2
namespace Go.Proofs.YtlpkcbkflfbclaaDoor.S
open Go.ChangeShapes Go.WideShapes Go.ChangeAt Go.RowKit Go.Deep

/-- A parameter that is an array of bytes. -/
theorem open_arr {H : Type} {enc : TypeId × Value → H} {P : Program} {W : World} {t e : TypeId} {n : Nat} {v : Value} {d : DataW H} {p : List MemPlace} {b0 : Nat} {r : Reach} (ht : P.underlying t = some (.array n e)) (he : P.underlying e = some (.int .u8)) (hC : P.cellsOf e = 1) (hn : P.cellsOf t = n) (hv : Value.okWide P W r b0 t v) (h : DataW.Trod enc P W 0 (fun _ => true) true t v d p) :
    ∃ l : List UInt8, l.length = n ∧ v = .agg (l.map byteV).toArray := by
  unfold Value.okWide at hv
  rw [ht] at hv
  obtain ⟨cs, rfl, hsz, _⟩ := hv
  obtain ⟨fuel, h⟩ := h
  replace h : DataW.trod enc P W 0 (fun _ => true) true fuel t cs.toList = some (d, p) := h
  obtain ⟨l, hl, hc⟩ := rd_arrU8 ht he hC hn ⟨fuel, p, h⟩
  refine ⟨l, hl, ?_⟩
  rw [← hc]
/-- A parameter that is an array of two numbers. -/
theorem open_ints {H : Type} {enc : TypeId × Value → H} {P : Program} {W : World} {t e : TypeId} {n : Nat} {v : Value} {d : DataW H} {p : List MemPlace} {b0 : Nat} {r : Reach} {kd : IntKind} (ht : P.underlying t = some (.array n e)) (he : P.underlying e = some (.int kd)) (hC : P.cellsOf e = 1) (hn : P.cellsOf t = n) (hv : Value.okWide P W r b0 t v) (h : DataW.Trod enc P W 0 (fun _ => true) true t v d p) :
    ∃ l : List Int, l.length = n ∧ v = .agg (l.map (Value.int kd)).toArray := by
  unfold Value.okWide at hv
  rw [ht] at hv
  obtain ⟨cs0, rfl, hsz, _⟩ := hv
  obtain ⟨fuel, h⟩ := h
  replace h : DataW.trod enc P W 0 (fun _ => true) true fuel t cs0.toList = some (d, p) := h
  obtain ⟨cs, hcs⟩ : ∃ cs, cs = cs0.toList := ⟨_, rfl⟩
  rw [← hcs] at h
  obtain ⟨xs, m, _, _, hl, hxl, hi⟩ := DataW.trod_array ht h
  rw [hn] at hl
  have key : ∀ x ∈ cs, ∃ c : Int, True ∧ x = Value.int kd c := by
    intro x hx
    obtain ⟨i, hi', rfl⟩ := List.mem_iff_getElem.1 hx
    have h1 := hi i (by omega)
    rw [hC, Nat.mul_one, List.drop_eq_getElem_cons hi'] at h1
    simp only [List.take_succ_cons, List.take_zero] at h1
    rw [List.getElem?_eq_getElem (by omega)] at h1
    obtain ⟨c, hc, _, _⟩ := rd_int (d := (xs[i]'(by omega)).1) he ⟨m, (xs[i]'(by omega)).2, h1⟩
    exact ⟨c, trivial, by simpa using hc⟩
  obtain ⟨l, hlc, _⟩ := choose_map (Value.int kd) cs key
  refine ⟨l, by rw [← hl, hlc, List.length_map], ?_⟩
  rw [← hlc, hcs]
end Go.Proofs.YtlpkcbkflfbclaaDoor.S
