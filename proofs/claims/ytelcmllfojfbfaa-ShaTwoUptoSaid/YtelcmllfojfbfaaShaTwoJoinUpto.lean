/- The law 'ShaTwo' holds where what comes in is of bulk at most 1048576. -/
import Derived.Test.YtelcmllfojfbfaaJoin
import Derived.Test.YtelcmllfojfbfaaBulk
import Derived.Test.YtelcmllfojfbfaaSF
namespace Go.Proofs.Ytelcmllfojfbfaa.shaTwo
open Go.ChangeShapes Go.WideShapes Go.ChangeAt Go.RowKit S

theorem contract (H : Type) (enc : TypeId × Value → H) (W : World) (base : Nat) (args : Array Value) (ds gs : List (DataW H)) (before : List MemPlace)
    (hval : ∀ (j : Nat) t v, Try.f11.params[j]? = some t → args[j]? = some v → Value.okWide Try.prog W .any base t v)
    (hW : DataW.Whole enc Try.prog Try.f11.params.toList Rows.shaTwoSpec.vars false W args.toList ds gs before) (hk : Rows.uptoSmall H (ds ++ gs) = true) :
    Calls Try.prog 11 args W fun e W' => ∃ v, e = .returned v ∧ Rows.shaTwoSpec.post enc Try.prog Try.f11 false true false false W args v W' := by
  have hW' := hW
  obtain ⟨p, q, hA0, hV, rfl, hfz, hnd⟩ := hW
  have hA : DataW.TrodAll enc Try.prog W 0 (fun _ => true) true Try.f11.params.toList args.toList ds p := hA0
  rw [Try.params11] at hA hval
  obtain ⟨v0, vs0, d0, ds0, p0, q0, hargs, rfl, rfl, h0, r0⟩ := trodAll_cons hA
  obtain ⟨v1, vs1, d1, ds1, p1, q1, rfl, rfl, rfl, h1, r1⟩ := trodAll_cons r0
  obtain ⟨rfl, rfl, rfl⟩ := trodAll_nil r1
  obtain rfl : args = #[v0, v1] := by cases args; simp_all
  obtain ⟨rfl, rfl⟩ := trodVars_none hV
  clear hA0
  simp only [List.append_nil] at hk
  have hv0 := hval 0 44 v0 rfl rfl
  obtain ⟨sva, pa, hpa, hla, _, hda⟩ := open_parts ty_44 ty_22 ty_5 ce_22 ce_5 hv0 h0
  have hfa := bulk_flat hda
  have hca := bulk_count hda
  have hv1 := hval 1 44 v1 rfl rfl
  obtain ⟨svb, pb, hpb, hlb, _, hdb⟩ := open_parts ty_44 ty_22 ty_5 ce_22 ce_5 hv1 h1
  have hfb := bulk_flat hdb
  have hcb := bulk_count hdb
  have hkk := of_decide_eq_true hk
  simp only [Rows.uptoBulkAll] at hkk
  refine (ShaTwo_any v0 v1 sva svb pa pb W hpa hpb (by omega) (by omega) (by omega) (by omega) (by simp) (by simp)).mono fun e W' ⟨v, Y, he, hst, hR⟩ => ?_
  obtain rfl : v = .bool true := hR
  exact ⟨_, he, law_post rfl rfl (tb := 4) (by kernel_rfl) (by kernel_rfl) (by rfl) hW' hst⟩

set_option maxRecDepth 100000 in
theorem lifted (os : Os) (started : os.Started) (H : Type) (enc : TypeId × Value → H) (F : Stop.Interp) :
    ReturnsInHanded {} Try.checked os 11 .any ((Rows.OpenSpec.upto Rows.shaTwoSpec).pre6 enc Try.prog Try.f11 Rows.shaTwoUptoRow.domain false) (((Rows.OpenSpec.upto Rows.shaTwoSpec).at F).post enc Try.prog Try.f11 false true false false) := by
  refine returnsInHanded_of_cond (C := Try.checked) (s := Rows.OpenSpec.upto Rows.shaTwoSpec) (k := Rows.uptoSmall) rfl own started (by kernel_rfl) Try.func11
    (OpenSpec.witness (enc := enc) (C := Try.checked) (s := Rows.OpenSpec.upto Rows.shaTwoSpec) (k := Rows.uptoSmall) rfl false ⟨#[], #[.slice none 0 0, .slice none 0 0], []⟩ 8 (by kernel_rfl) (by kernel_rfl) (by kernel_rfl)
      (x := ([.nil, .nil], [], [])) (by kernel_rfl) rfl (by kernel_rfl)) ?_
  intro W base args ds gs before hval hW _ hk _
  exact contract H enc W base args ds gs before hval hW hk

/-- THE STATEMENT -/
theorem proved : Rows.ShaTwoUptoSaid :=
  OpenClaim.holds_of_cond 11 Try.f11 rfl rfl rfl rfl rfl rfl rfl ⟨rfl, rfl, rfl, rfl, rfl⟩ rfl rfl rfl rfl rfl (by kernel_rfl) Try.func11 (by kernel_rfl)
    (of_decide_eq_true (by kernel_rfl)) (by unfold Func.isWrapper; first | (rw [if_pos (by decide +kernel)]; kernel_rfl) | (rw [if_neg (by decide +kernel)]; exact ⟨rfl, rfl⟩))
    (fun os started H enc _ F => lifted os started H enc F)
end Go.Proofs.Ytelcmllfojfbfaa.shaTwo
