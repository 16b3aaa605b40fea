/- In the order in which they were sent: plain. -/
import Derived.Test.YtijijaobialncaaOC
import Derived.Test.YtijijaobialncaaFrLaws
import Derived.Test.YtijijaobialncaaOpen
namespace Go.Proofs.Ytijijaobialncaa.S
open Go.RowKit

theorem Frm.dec {f : Frm} {l : List UInt8} (hw : f.Wf) (h : f.enc = .ok l) : decF l = .ok (f.kind, f.keys, f.nums, f.sigs, f.data) := by
  have := dec_enc hw.keys hw.nums hw.sigs h []
  rw [List.append_nil, if_pos rfl] at this
  exact this
theorem envF_wf {n : Nat} {t : List UInt8} (hn : n < 4294967296) : (envF n t).Wf := by
  refine ⟨fun x hx => ?_, fun x hx => ?_, fun x hx => (by cases hx)⟩
  · have : x = List.replicate 32 0 := List.mem_singleton.1 hx
    subst this; rfl
  · have : x = n := List.mem_singleton.1 hx
    subst this; exact hn
theorem env_dec {t : List UInt8} (h : t.length ≤ 16384) : ∃ l, (envF 1 t).enc = .ok l ∧ l.length = t.length + 41 ∧ decF l = .ok (7, [List.replicate 32 0], [1], [], t) := by
  have he : (envF 1 t).enc = .ok _ := encF_ok (a := 1) (b := 1) (c := 0) (d := true) rfl rfl rfl rfl (.inl rfl) h
  refine ⟨_, he, ?_, ?_⟩
  · simp [envF, be32] <;> omega
  · exact Frm.dec (envF_wf (by decide)) he
end Go.Proofs.Ytijijaobialncaa.S
