/- What is told is told in order, and who says something belongs to it. -/
import Derived.Test.YtlpkcbkflfbclaaGreatDoorG10
import Derived.Test.YtlpkcbkflfbclaaGreatDoorOpsK
namespace Go.Proofs.YtlpkcbkflfbclaaGreatDoor.S
open Go.RowKit

/-! ### The words, as keys -/
def keyT (n : Nat) : Value := .string (bstr (nmb sText [n]))
theorem findQ_none {q : Value → Bool} : ∀ {kv : List (Value × Value)} {i : Nat}, (∀ p ∈ kv, q p.1 = false) → findQ q kv i = none
  | [], _, _ => rfl
  | p :: kv, i, h => by rw [findQ, h p (by simp), if_neg (by decide)]; exact findQ_none fun x hx => h x (by simp [hx])
theorem shp_text : ∀ n < 26, shp (textT n) = true := by decide +kernel
theorem rd_at {C : Ctx} {L : List Blk} {b off size i : Nat} {tg : Option TypeId} {cs : List Value} {v : Value} (hf : Find L ⟨⟨b, tg⟩, off, cs, size⟩) (h : cs[i]? = some v) : Rd C L ⟨b, off + i, none⟩ v := RdN.at0 hf i v h
theorem TString_text (w0 : World) (n : Nat) (hn : n < 26) : FnV P 14 [.agg #[.int .i64 1, .string (bstr (nmb sText [n])), .slice none 0 0]] w0 [] (fun v => v = keyT n) := by
  have h := TString_any w0 [] (textT n) (cx := [.int .i64 1, .string (bstr (nmb sText [n])), .slice none 0 0]) TmR.atom (shp_text n hn) (by simp [textT, Tm.size, tsize])
  rwa [show txt (textT n) = nmb sText [n] by simp [textT, txt]] at h
/-! ### What is told -/
theorem tells_at {s : Sg} {m i : Nat} {t : Td} (h : SgInv m s) (ht : s.told[i]? = some t) : t.num = i + 1 ∧ 1 ≤ t.epoch ∧ t.who ∈ t.names ∧ t.names.Pairwise (· < ·) ∧ (∀ n ∈ t.names, 1 ≤ n ∧ n ≤ 6) ∧ t.names.length ≤ 6 := by
  obtain ⟨h1, h2, h3, h4⟩ := h.td i t ht
  obtain ⟨h5, h6⟩ := h.hs _ (List.mem_of_getElem? h3)
  exact ⟨h1, h2, h4, h5, h6, asc_len h5 h6⟩
end Go.Proofs.YtlpkcbkflfbclaaGreatDoor.S
