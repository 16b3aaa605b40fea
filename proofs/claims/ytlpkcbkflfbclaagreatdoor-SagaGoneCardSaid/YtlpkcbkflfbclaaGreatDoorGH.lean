/- Events and numbers that came in, and how many they can be. -/
import Derived.Test.YtlpkcbkflfbclaaGreatDoorGE
import Derived.Test.YtlpkcbkflfbclaaGreatDoorTmMem
namespace Go.Proofs.YtlpkcbkflfbclaaGreatDoor.S
open Go.RowKit

set_option maxRecDepth 100000 in
theorem open_evsW {H : Type} {enc : TypeId × Value → H} {W : World} {v : Value} {d : DataW H} {p : List MemPlace} {b0 : Nat} {r : Reach} (hv : Value.okWide P W r b0 42 v) (h : DataW.Trod enc P W 0 (fun _ => true) true 42 v d p) (hw : Wt P 42 d) :
    ∃ a c, ∃ es : List (Int × Int), v = .slice a es.length c ∧ RowR W [] 2 (.slice a es.length c) es.length (es.flatMap evC) ∧ es.length ≤ 1000000000000000 := by
  have hc := okW_cell (by rw [ty_42]; simp) (by rw [ty_42]; simp) hv
  obtain ⟨fuel, h⟩ := h
  have hcells : v.cells.toList = [v] := by
    unfold Cell.okWide Cell.ok at hc
    simp only [ty_42] at hc
    cases v <;> first | rfl | exact hc.elim
  rw [hcells] at h
  obtain ⟨n, ess, ds, h1, h2, h3, h4, h5⟩ := rd_slR ty_42 ce_62 (by decide) ⟨fuel, p, h⟩
  have hn : n ≤ 1000000000000000 := by
    rcases h3 with ⟨_, rfl⟩ | ⟨sp, rfl⟩
    · simp at h2; omega
    · have := hw.len ty_42
      rw [show P.bytesOf 62 = 16 by kernel_rfl] at this
      unfold reachBytes at this
      omega
  obtain ⟨l, hl, hf⟩ := choose_evs (ess := ess) fun es hes => by
    obtain ⟨i, hi, rfl⟩ := List.mem_iff_getElem.1 hes
    exact rd_ev (h5 i _ _ (List.getElem?_eq_getElem hi) (List.getElem?_eq_getElem (l := ds) (i := i) (by omega)))
  obtain ⟨a, c, rfl⟩ := h4.form
  exact ⟨a, c, l, by rw [hl, h1], by rw [hl, h1, hf]; exact h4, by rw [hl, h1]; exact hn⟩
theorem choose_ints {ess : List (List Value)} (h : ∀ es ∈ ess, ∃ k : Int, es = [.int .i64 k]) : ∃ l : List Int, l.length = ess.length ∧ l.map (Value.int .i64) = ess.flatten := by
  induction ess with
  | nil => exact ⟨[], rfl, rfl⟩
  | cons es ess ih =>
    obtain ⟨k, rfl⟩ := h es (by simp)
    obtain ⟨l, hl, hf⟩ := ih fun x hx => h x (by simp [hx])
    exact ⟨k :: l, by simp [hl], by rw [List.map_cons, hf]; rfl⟩
set_option maxRecDepth 100000 in
theorem open_intsW {H : Type} {enc : TypeId × Value → H} {W : World} {v : Value} {d : DataW H} {p : List MemPlace} {b0 : Nat} {r : Reach} (hv : Value.okWide P W r b0 44 v) (h : DataW.Trod enc P W 0 (fun _ => true) true 44 v d p) (hw : Wt P 44 d) :
    ∃ a c, ∃ gs : List Int, v = .slice a gs.length c ∧ RowR W [] 1 (.slice a gs.length c) gs.length (gs.map (Value.int .i64)) ∧ gs.length ≤ 1000000000000000 := by
  have hc := okW_cell (by rw [ty_44]; simp) (by rw [ty_44]; simp) hv
  obtain ⟨fuel, h⟩ := h
  have hcells : v.cells.toList = [v] := by
    unfold Cell.okWide Cell.ok at hc
    simp only [ty_44] at hc
    cases v <;> first | rfl | exact hc.elim
  rw [hcells] at h
  obtain ⟨n, ess, ds, h1, h2, h3, h4, h5⟩ := rd_slR ty_44 ce_3 (by decide) ⟨fuel, p, h⟩
  have hn : n ≤ 1000000000000000 := by
    rcases h3 with ⟨_, rfl⟩ | ⟨sp, rfl⟩
    · simp at h2; omega
    · have := hw.len ty_44
      rw [show P.bytesOf 3 = 8 by kernel_rfl] at this
      unfold reachBytes at this
      omega
  obtain ⟨l, hl, hf⟩ := choose_ints (ess := ess) fun es hes => by
    obtain ⟨i, hi, rfl⟩ := List.mem_iff_getElem.1 hes
    obtain ⟨k, hk, _⟩ := rd_int ty_3 (h5 i _ _ (List.getElem?_eq_getElem hi) (List.getElem?_eq_getElem (l := ds) (i := i) (by omega)))
    exact ⟨k, hk⟩
  obtain ⟨a, c, rfl⟩ := h4.form
  exact ⟨a, c, l, by rw [hl, h1], by rw [hl, h1, hf]; exact h4, by rw [hl, h1]; exact hn⟩

end Go.Proofs.YtlpkcbkflfbclaaGreatDoor.S
