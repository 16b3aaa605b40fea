/- The law 'CellBefore' holds for every input. -/
import Derived.Test.YtmolpgnekcfimaaJoin
import Derived.Test.YtmolpgnekcfimaaOpen5
import Derived.Test.YtmolpgnekcfimaaCC
namespace Go.Proofs.Ytmolpgnekcfimaa.cellBefore
open Go.ChangeShapes Go.WideShapes Go.ChangeAt Go.RowKit S

set_option maxRecDepth 100000 in
theorem contract (H : Type) (enc : TypeId × Value → H) (W : World) (base : Nat) (args : Array Value) (ds gs : List (DataW H)) (before : List MemPlace)
    (hval : ∀ (j : Nat) t v, Try.f6.params[j]? = some t → args[j]? = some v → Value.okWide Try.prog W .any base t v)
    (hW : DataW.Whole enc Try.prog Try.f6.params.toList Rows.cellBeforeSpec.vars false W args.toList ds gs before) :
    Calls Try.prog 6 args W fun e W' => ∃ v, e = .returned v ∧ Rows.cellBeforeSpec.post enc Try.prog Try.f6 false true false false W args v W' := by
  have hW' := hW
  obtain ⟨p, q, hA0, hV, rfl, hfz, hnd⟩ := hW
  have hA : DataW.TrodAll enc Try.prog W 0 (fun _ => true) true Try.f6.params.toList args.toList ds p := hA0
  rw [Try.params6] at hA hval
  obtain ⟨v0, vs0, d0, ds0, p0, q0, hargs, rfl, rfl, h0, r0⟩ := trodAll_cons hA
  obtain ⟨v1, vs1, d1, ds1, p1, q1, rfl, rfl, rfl, h1, r1⟩ := trodAll_cons r0
  obtain ⟨v2, vs2, d2, ds2, p2, q2, rfl, rfl, rfl, h2, r2⟩ := trodAll_cons r1
  obtain ⟨rfl, rfl, rfl⟩ := trodAll_nil r2
  obtain rfl : args = #[v0, v1, v2] := by cases args; simp_all
  obtain ⟨rfl, rfl⟩ := trodVars_none hV
  clear hA0
  have hv0 := hval 0 50 v0 rfl rfl
  obtain ⟨l, hll, rfl, hl⟩ := open_arrp ty_50 ty_33 ty_5 ce_33 ce_5 ce_50 hv0 h0
  obtain ⟨⟨va, pa⟩, ⟨vb, pb⟩, ⟨vc, pc⟩, rfl⟩ : ∃ a b c, l = [a, b, c] := by
    match l, hll with
    | [a, b, c], _ => exact ⟨a, b, c, rfl⟩
  have hpa := (hl (va, pa) (by simp)).2
  have hpb := (hl (vb, pb) (by simp)).2
  have hpc := (hl (vc, pc) (by simp)).2
  have hv1 := hval 1 3 v1 rfl rfl
  obtain ⟨at_, rfl, rfl, rfl, w1⟩ := open_int Try.underlying3 hv1 h1
  have hv2 := hval 2 4 v2 rfl rfl
  obtain ⟨lst, rfl, rfl, rfl⟩ := open_bool Try.underlying4 hv2 h2
  refine (CellBefore_any va vb vc pa pb pc at_ lst W hpa hpb hpc (by simp) (by simp)).mono fun e W' ⟨v, Y, he, hst, hR⟩ => ?_
  obtain rfl : v = .bool true := hR
  exact ⟨_, he, law_post rfl rfl (tb := 4) (by kernel_rfl) (by kernel_rfl) (by rfl) hW' hst⟩

set_option maxRecDepth 100000 in
theorem lifted (os : Os) (started : os.Started) (H : Type) (enc : TypeId × Value → H) :
    ReturnsInHanded {} Try.checked os 6 .any (Rows.cellBeforeSpec.pre6 enc Try.prog Try.f6 Rows.cellBeforeRow.domain false) (Rows.cellBeforeSpec.post enc Try.prog Try.f6 false true false false) := by
  refine returnsInHanded_of_change (C := Try.checked) own started (by kernel_rfl) Try.func6
    (ChangeSpec.witness6 (enc := enc) (C := Try.checked) false ⟨#[], #[.agg #[.slice none 0 0, .slice none 0 0, .slice none 0 0], .int .i64 0, .bool false], []⟩ 8 (by kernel_rfl) (by kernel_rfl) (by kernel_rfl) (by kernel_rfl)) ?_
  intro W base args ds gs before hval hW _ _
  exact contract H enc W base args ds gs before hval hW

/-- THE STATEMENT -/
theorem proved : Rows.CellBeforeSaid :=
  OpenClaim.holds_of_wide 6 Try.f6 rfl rfl rfl rfl rfl rfl rfl ⟨rfl, rfl, rfl, rfl, rfl⟩ rfl rfl rfl rfl rfl (by kernel_rfl) Try.func6 (by kernel_rfl)
    (of_decide_eq_true (by kernel_rfl)) (by unfold Func.isWrapper; first | (rw [if_pos (by decide +kernel)]; kernel_rfl) | (rw [if_neg (by decide +kernel)]; exact ⟨rfl, rfl⟩))
    (fun os started H enc _ => lifted os started H enc)
end Go.Proofs.Ytmolpgnekcfimaa.cellBefore
