/- Events that came in. -/
import Derived.Test.YtlpkcbkflfbclaaGreatDoorG7
import Derived.Test.YtlpkcbkflfbclaaGreatDoorTmMem
namespace Go.Proofs.YtlpkcbkflfbclaaGreatDoor.S
open Go.RowKit

theorem choose_evs {ess : List (List Value)} (h : ∀ es ∈ ess, ∃ k w : Int, es = [.int .i64 k, .int .i64 w]) : ∃ l : List (Int × Int), l.length = ess.length ∧ l.flatMap evC = ess.flatten := by
  induction ess with
  | nil => exact ⟨[], rfl, rfl⟩
  | cons es ess ih =>
    obtain ⟨k, w, rfl⟩ := h es (by simp)
    obtain ⟨l, hl, hf⟩ := ih fun x hx => h x (by simp [hx])
    exact ⟨(k, w) :: l, by simp [hl], by rw [List.flatMap_cons, hf]; rfl⟩
set_option maxRecDepth 100000 in
theorem rd_ev {H : Type} {enc : TypeId × Value → H} {W : World} {d : DataW H} {cs : List Value} (h : Tr enc P W 62 cs d) : ∃ k w : Int, cs = [.int .i64 k, .int .i64 w] := by
  obtain ⟨xs, rfl, hxl, hcl, hf⟩ := rd_struct (l := [(3, 0), (3, 1)]) (by kernel_rfl) h
  obtain ⟨y0, hy0, h0⟩ := hf 0 (3, 0) rfl
  obtain ⟨y1, hy1, h1⟩ := hf 1 (3, 1) rfl
  rw [ce_62] at hcl
  match cs, hcl, h0, h1 with
  | [v0, v1], _, h0, h1 =>
    simp only [ce_3, List.drop_zero, List.drop_succ_cons, List.take_succ_cons, List.take_zero] at h0 h1
    obtain ⟨k, hk, _⟩ := rd_int ty_3 h0
    obtain ⟨w, hw, _⟩ := rd_int ty_3 h1
    cases hk; cases hw
    exact ⟨k, w, rfl⟩
end Go.Proofs.YtlpkcbkflfbclaaGreatDoor.S
