/- One more laid bare makes nothing secret. -/
import Derived.Test.YtlpkcbkflfbclaaGreatDoorG11
namespace Go.Proofs.YtlpkcbkflfbclaaGreatDoor.S
open Go.RowKit

theorem runs_app {es fs : List (Int × Int)} : ∀ {s : Sg}, s.runs (es ++ fs) = if (s.runs es).1 = 0 then (s.runs es).2.runs fs else s.runs es := by
  induction es with
  | nil => intro s; rw [List.nil_append, Sg.runs, if_pos rfl]
  | cons e es ih =>
    intro s
    rw [List.cons_append, Sg.runs, Sg.runs]
    by_cases h : (s.step e.1 e.2).1 = 0
    · rw [if_pos h, if_pos h]; exact ih
    · rw [if_neg h, if_neg h, if_neg h]
theorem sec_num {es : List (Int × Int)} : ∀ t ∈ secL es, t.num < 26 := by
  intro t ht
  unfold secL at ht
  have h1 := (List.mem_filter.1 ht).1
  by_cases hc : (sgRun es).1 = 0
  · obtain ⟨i, hi⟩ := List.getElem?_of_mem h1
    have h2 := (tells_at (out_inv hc) hi).1
    have h3 := (List.getElem?_eq_some_iff.1 hi).1
    have := (out_inv hc).tl
    omega
  · rw [sgOut_err hc] at h1; cases h1
theorem nmb_ne : ∀ a < 26, ∀ b < 26, decide (bstr (nmb sText [a]) ≠ bstr (nmb sText [b])) = decide (a ≠ b) := by decide +kernel
theorem ev_ones {es : List (Int × Int)} : ∀ u ∈ es.flatMap evC, one u = true := by
  intro u hu
  obtain ⟨e, _, he⟩ := List.mem_flatMap.1 hu
  unfold evC at he
  simp only [List.mem_cons, List.not_mem_nil, or_false] at he
  rcases he with rfl | rfl <;> rfl
theorem ev_snoc {es : List (Int × Int)} {k w : Int} : es.flatMap evC ++ [.int .i64 k, .int .i64 w] = (es ++ [(k, w)]).flatMap evC := by
  rw [List.flatMap_append]; rfl
end Go.Proofs.YtlpkcbkflfbclaaGreatDoor.S
