/- Events that came in. -/
import Derived.Test.YtfjedhmffccgnaaGreatDoorG7
import Derived.Test.YtfjedhmffccgnaaGreatDoorTmMem
namespace Go.Proofs.YtfjedhmffccgnaaGreatDoor.S
set_option maxRecDepth 100000
open Go.RowKit
theorem choose_evs {ess : List (List Value)} (h : ∀ es ∈ ess, ∃ k w : Int, es = [.int .i64 k, .int .i64 w]) : ∃ l : List (Int × Int), l.length = ess.length ∧ l.flatMap evC = ess.flatten := by
 induction ess with
 | nil => exact ⟨[], rfl, rfl⟩
 | cons es ess ih =>
  obtain ⟨k, w, rfl⟩ := h es (by simp)
  obtain ⟨l, hl, hf⟩ := ih fun x hx => h x (by simp [hx])
  exact ⟨(k, w) :: l, by simp [hl], by rw [List.flatMap_cons, hf]; rfl⟩
theorem rd_ev {H : Type} {enc : TypeId × Value → H} {W : World} {d : DataW H} {cs : List Value} (h : Tr enc P W 30 cs d) : ∃ k w : Int, cs = [.int .i64 k, .int .i64 w] := by
 obtain ⟨xs, rfl, hxl, hcl, hf⟩ := rd_struct (l := [(3, 0), (3, 1)]) (by kernel_rfl) h
 obtain ⟨y0, hy0, h0⟩ := hf 0 (3, 0) rfl
 obtain ⟨y1, hy1, h1⟩ := hf 1 (3, 1) rfl
 rw [ce_30] at hcl
 match cs, hcl, h0, h1 with
 | [v0, v1], _, h0, h1 =>
  simp only [ce_3, List.drop_zero, List.drop_succ_cons, List.take_succ_cons, List.take_zero] at h0 h1
  obtain ⟨k, hk, _⟩ := rd_int ty_3 h0
  obtain ⟨w, hw, _⟩ := rd_int ty_3 h1
  cases hk; cases hw
  exact ⟨k, w, rfl⟩
theorem open_evs {H : Type} {enc : TypeId × Value → H} {W : World} {v : Value} {d : DataW H} {p : List MemPlace} {b0 : Nat} {r : Reach} (hv : Value.okWide P W r b0 22 v) (h : DataW.Trod enc P W 0 (fun _ => true) true 22 v d p) :
 ∃ a c, ∃ es : List (Int × Int), v = .slice a es.length c ∧ RowR W [] 2 (.slice a es.length c) es.length (es.flatMap evC) := by
 have hc := okW_cell (by rw [ty_22]; simp) (by rw [ty_22]; simp) hv
 obtain ⟨fuel, h⟩ := h
 have hcells : v.cells.toList = [v] := by
  unfold Cell.okWide Cell.ok at hc
  simp only [ty_22] at hc
  cases v <;> first | rfl | exact hc.elim
 rw [hcells] at h
 obtain ⟨n, ess, ds, h1, h2, h3, h4, h5⟩ := rd_slR ty_22 ce_30 ze ⟨fuel, p, h⟩
 obtain ⟨l, hl, hf⟩ := choose_evs (ess := ess) fun es hes => by
  obtain ⟨i, hi, rfl⟩ := List.mem_iff_getElem.1 hes
  exact rd_ev (h5 i _ _ (List.getElem?_eq_getElem hi) (List.getElem?_eq_getElem (l := ds) (i := i) zw))
 obtain ⟨a, c, rfl⟩ := h4.form
 exact ⟨a, c, l, by rw [hl, h1], by rw [hl, h1, hf]; exact h4⟩
end Go.Proofs.YtfjedhmffccgnaaGreatDoor.S
