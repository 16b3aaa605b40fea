/- What the bound of the second form gives: parts that came in are together no longer than their bulk. -/
import Derived.Test.YtelcmllfojfbfaaOpen4
import Derived.Test.YtelcmllfojfbfaaRows
namespace Go.Proofs.Ytelcmllfojfbfaa.S
theorem bulk_one {H : Type} (d : DataW H) : 1 ≤ Rows.uptoBulk d := by
  cases d with
  | lit l => cases l <;> simp [Rows.uptoBulk]
  | nil => simp [Rows.uptoBulk]
  | ptr d => simp [Rows.uptoBulk]
  | slice elems spare => simp [Rows.uptoBulk]
  | agg parts => simp [Rows.uptoBulk]
  | iface t d => simp [Rows.uptoBulk]
  | map entries => simp [Rows.uptoBulk]
  | held h => simp [Rows.uptoBulk]
theorem bulk_length {H : Type} (l : List (DataW H)) : l.length ≤ Rows.uptoBulkAll l := by
  induction l with
  | nil => simp [Rows.uptoBulkAll]
  | cons x r ih => have := bulk_one x; simp only [Rows.uptoBulkAll, List.length_cons]; omega
theorem bulk_len {H : Type} {d : DataW H} {p : List UInt8} (h : lenD d p) : p.length + 1 ≤ Rows.uptoBulk d := by
  rcases h with ⟨rfl, rfl⟩ | ⟨ds, sp, rfl, hl⟩
  · simp [Rows.uptoBulk]
  · have := bulk_length ds
    simp only [Rows.uptoBulk]; omega
theorem bulk_parts {H : Type} : ∀ (ds : List (DataW H)) (ps : List (List UInt8)), ds.length = ps.length → (∀ (i : Nat) (x : DataW H) (p : List UInt8), ds[i]? = some x → ps[i]? = some p → lenD x p) → ps.flatten.length ≤ Rows.uptoBulkAll ds
  | [], [], _, _ => by simp
  | [], p :: ps, h, _ => by simp at h
  | d :: ds, [], h, _ => by simp at h
  | d :: ds, p :: ps, h, g => by
    have h1 := bulk_len (g 0 d p rfl rfl)
    have h2 := bulk_parts ds ps (by simpa using h) (fun i x q hx hq => g (i + 1) x q (by simpa using hx) (by simpa using hq))
    simp only [Rows.uptoBulkAll, List.flatten_cons, List.length_append]; omega
theorem bulk_flat {H : Type} {d : DataW H} {ps : List (List UInt8)} (h : (d = .nil ∧ ps = []) ∨ ∃ ds sp, d = .slice ds sp ∧ ds.length = ps.length ∧ ∀ (i : Nat) (x : DataW H) (p : List UInt8), ds[i]? = some x → ps[i]? = some p → lenD x p) : ps.flatten.length ≤ Rows.uptoBulk d := by
  rcases h with ⟨rfl, rfl⟩ | ⟨ds, sp, rfl, hl, g⟩
  · simp
  · have := bulk_parts ds ps hl g
    simp only [Rows.uptoBulk]; omega
theorem bulk_count {H : Type} {d : DataW H} {ps : List (List UInt8)} (h : (d = .nil ∧ ps = []) ∨ ∃ ds sp, d = .slice ds sp ∧ ds.length = ps.length ∧ ∀ (i : Nat) (x : DataW H) (p : List UInt8), ds[i]? = some x → ps[i]? = some p → lenD x p) : ps.length ≤ Rows.uptoBulk d := by
  rcases h with ⟨rfl, rfl⟩ | ⟨ds, sp, rfl, hl, g⟩
  · simp
  · have := bulk_length ds
    simp only [Rows.uptoBulk]; omega
end Go.Proofs.Ytelcmllfojfbfaa.S
