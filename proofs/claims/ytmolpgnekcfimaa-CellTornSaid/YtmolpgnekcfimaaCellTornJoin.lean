/- The law 'CellTorn' holds for every input. -/
import Derived.Test.YtmolpgnekcfimaaJoin
import Derived.Test.YtmolpgnekcfimaaOpen3
import Derived.Test.YtmolpgnekcfimaaOpen5
import Derived.Test.YtmolpgnekcfimaaCB
namespace Go.Proofs.Ytmolpgnekcfimaa.cellTorn
open Go.ChangeShapes Go.WideShapes Go.ChangeAt Go.RowKit S

set_option maxRecDepth 100000 in
theorem contract (H : Type) (enc : TypeId × Value → H) (W : World) (base : Nat) (args : Array Value) (ds gs : List (DataW H)) (before : List MemPlace)
    (hval : ∀ (j : Nat) t v, Try.f5.params[j]? = some t → args[j]? = some v → Value.okWide Try.prog W .any base t v)
    (hW : DataW.Whole enc Try.prog Try.f5.params.toList Rows.cellTornSpec.vars false W args.toList ds gs before) :
    Calls Try.prog 5 args W fun e W' => ∃ v, e = .returned v ∧ Rows.cellTornSpec.post enc Try.prog Try.f5 false true false false W args v W' := by
  have hW' := hW
  obtain ⟨p, q, hA0, hV, rfl, hfz, hnd⟩ := hW
  have hA : DataW.TrodAll enc Try.prog W 0 (fun _ => true) true Try.f5.params.toList args.toList ds p := hA0
  rw [Try.params5] at hA hval
  obtain ⟨v0, vs0, d0, ds0, p0, q0, hargs, rfl, rfl, h0, r0⟩ := trodAll_cons hA
  obtain ⟨v1, vs1, d1, ds1, p1, q1, rfl, rfl, rfl, h1, r1⟩ := trodAll_cons r0
  obtain ⟨rfl, rfl, rfl⟩ := trodAll_nil r1
  obtain rfl : args = #[v0, v1] := by cases args; simp_all
  obtain ⟨rfl, rfl⟩ := trodVars_none hV
  clear hA0
  have hv0 := hval 0 46 v0 rfl rfl
  obtain ⟨l, hll, rfl, hl⟩ := open_arrp ty_46 ty_33 ty_5 ce_33 ce_5 ce_46 hv0 h0
  obtain ⟨⟨va, pa⟩, ⟨vb, pb⟩, rfl⟩ : ∃ a b, l = [a, b] := by
    match l, hll with
    | [a, b], _ => exact ⟨a, b, rfl⟩
  have hpa := (hl (va, pa) (by simp)).2
  have hpb := (hl (vb, pb) (by simp)).2
  have hv1 := hval 1 47 v1 rfl rfl
  obtain ⟨li, hli, rfl⟩ := open_ints ty_47 ty_3 ce_3 ce_47 hv1 h1
  obtain ⟨i0, i1, rfl⟩ : ∃ a b, li = [a, b] := by
    match li, hli with
    | [a, b], _ => exact ⟨a, b, rfl⟩
  refine (CellTorn_any va vb pa pb i0 i1 W hpa hpb (by simp) (by simp)).mono fun e W' ⟨v, Y, he, hst, hR⟩ => ?_
  obtain rfl : v = .bool true := hR
  exact ⟨_, he, law_post rfl rfl (tb := 4) (by kernel_rfl) (by kernel_rfl) (by rfl) hW' hst⟩

set_option maxRecDepth 100000 in
theorem lifted (os : Os) (started : os.Started) (H : Type) (enc : TypeId × Value → H) :
    ReturnsInHanded {} Try.checked os 5 .any (Rows.cellTornSpec.pre6 enc Try.prog Try.f5 Rows.cellTornRow.domain false) (Rows.cellTornSpec.post enc Try.prog Try.f5 false true false false) := by
  refine returnsInHanded_of_change (C := Try.checked) own started (by kernel_rfl) Try.func5
    (ChangeSpec.witness6 (enc := enc) (C := Try.checked) false ⟨#[], #[.agg #[.slice none 0 0, .slice none 0 0], .agg #[.int .i64 0, .int .i64 0]], []⟩ 8 (by kernel_rfl) (by kernel_rfl) (by kernel_rfl) (by kernel_rfl)) ?_
  intro W base args ds gs before hval hW _ _
  exact contract H enc W base args ds gs before hval hW

/-- THE STATEMENT -/
theorem proved : Rows.CellTornSaid :=
  OpenClaim.holds_of_wide 5 Try.f5 rfl rfl rfl rfl rfl rfl rfl ⟨rfl, rfl, rfl, rfl, rfl⟩ rfl rfl rfl rfl rfl (by kernel_rfl) Try.func5 (by kernel_rfl)
    (of_decide_eq_true (by kernel_rfl)) (by unfold Func.isWrapper; first | (rw [if_pos (by decide +kernel)]; kernel_rfl) | (rw [if_neg (by decide +kernel)]; exact ⟨rfl, rfl⟩))
    (fun os started H enc _ => lifted os started H enc)
end Go.Proofs.Ytmolpgnekcfimaa.cellTorn
