/- The law 'SafetyLooks' holds for every input. -/
import Derived.Test.YtdgbckfnamiebaaJoin
import Derived.Test.YtdgbckfnamiebaaOpen5
import Derived.Test.YtdgbckfnamiebaaB9
namespace Go.Proofs.Ytdgbckfnamiebaa.safetyLooks
open Go.ChangeShapes Go.WideShapes Go.ChangeAt Go.RowKit S

set_option maxRecDepth 100000 in
theorem contract (H : Type) (enc : TypeId × Value → H) (W : World) (base : Nat) (args : Array Value) (ds gs : List (DataW H)) (before : List MemPlace)
    (hval : ∀ (j : Nat) t v, Try.f6.params[j]? = some t → args[j]? = some v → Value.okWide Try.prog W .any base t v)
    (hW : DataW.Whole enc Try.prog Try.f6.params.toList Rows.safetyLooksSpec.vars false W args.toList ds gs before) (hw0 : (DataW.weightsEach Try.prog (Try.f6.params.toList ++ Rows.safetyLooksSpec.plain.varTypes Try.prog) (ds ++ gs)).all (· ≤ reachBytes) = true) :
    Calls Try.prog 6 args W fun e W' => ∃ v, e = .returned v ∧ Rows.safetyLooksSpec.post enc Try.prog Try.f6 false true false false W args v W' := by
  have hW' := hW
  obtain ⟨p, q, hA0, hV, rfl, hfz, hnd⟩ := hW
  have hA : DataW.TrodAll enc Try.prog W 0 (fun _ => true) true Try.f6.params.toList args.toList ds p := hA0
  rw [Try.params6] at hA hval
  obtain ⟨v0, vs0, d0, ds0, p0, q0, hargs, rfl, rfl, h0, r0⟩ := trodAll_cons hA
  obtain ⟨v1, vs1, d1, ds1, p1, q1, rfl, rfl, rfl, h1, r1⟩ := trodAll_cons r0
  obtain ⟨rfl, rfl, rfl⟩ := trodAll_nil r1
  obtain rfl : args = #[v0, v1] := by cases args; simp_all
  obtain ⟨rfl, rfl⟩ := trodVars_none hV
  clear hA0
  have hw : (DataW.weightsEach P [34, 37] [d0, d1]).all (· ≤ reachBytes) = true := hw0
  clear hw0
  have hv0 := hval 0 34 v0 rfl rfl
  obtain ⟨cs0, rfl, hc0, hw0⟩ := open_agg ty_34 ce_34 (m := 2) (c := 9) (by kernel_rfl) hv0
  obtain ⟨u0, u1, rfl⟩ : ∃ a b, cs0 = [a, b] := by match cs0, hc0 with | [a, b], _ => exact ⟨a, b, rfl⟩
  obtain ⟨n0, rfl⟩ := cell_text ty_9 (hw0 u0 (by simp))
  obtain ⟨n1, rfl⟩ := cell_text ty_9 (hw0 u1 (by simp))
  obtain ⟨m0, m1⟩ := names_sized ty_34 ty_9 ce_9 h0 (ts := [34, 37]) (by rfl) (by rfl) hw
  have hv1 := hval 1 37 v1 rfl rfl
  obtain ⟨cs1, rfl, hc1, hw1⟩ := open_agg ty_37 ce_37 (m := 64) (c := 5) (by kernel_rfl) hv1
  obtain ⟨l, rfl, _⟩ := choose_map (p := fun _ => True) byteV cs1 (fun x hx => by obtain ⟨c, hc⟩ := cell_u8 ty_5 (hw1 x hx); exact ⟨c, trivial, hc⟩)
  rw [List.length_map] at hc1
  obtain ⟨k0, k1, rfl, hk0, hk1⟩ : ∃ a b : List UInt8, l = a ++ b ∧ a.length = 32 ∧ b.length = 32 := ⟨l.take 32, l.drop 32, (List.take_append_drop 32 l).symm, by rw [List.length_take]; omega, by rw [List.length_drop]; omega⟩
  refine (SafetyLooks_any n0 n1 k0 k1 W hk0 hk1 m0 m1 (by simp) (by simp)).mono fun e W' ⟨v, Y, he, hst, hR⟩ => ?_
  obtain rfl : v = .bool true := hR
  exact ⟨_, he, law_post rfl rfl (tb := 4) (by kernel_rfl) (by kernel_rfl) (by rfl) hW' hst⟩

set_option maxRecDepth 100000 in
theorem lifted (os : Os) (started : os.Started) (H : Type) (enc : TypeId × Value → H) :
    ReturnsInHanded {} Try.checked os 6 .any (Rows.safetyLooksSpec.pre6 enc Try.prog Try.f6 Rows.safetyLooksRow.domain false) (Rows.safetyLooksSpec.post enc Try.prog Try.f6 false true false false) := by
  refine returnsInHanded_of_change_sized (C := Try.checked) own started (by kernel_rfl) Try.func6
    (ChangeSpec.witness6 (enc := enc) (C := Try.checked) false ⟨#[], #[.agg #[.string ⟨#[]⟩, .string ⟨#[]⟩], .agg #[.int .u8 0, .int .u8 0, .int .u8 0, .int .u8 0, .int .u8 0, .int .u8 0, .int .u8 0, .int .u8 0, .int .u8 0, .int .u8 0, .int .u8 0, .int .u8 0, .int .u8 0, .int .u8 0, .int .u8 0, .int .u8 0, .int .u8 0, .int .u8 0, .int .u8 0, .int .u8 0, .int .u8 0, .int .u8 0, .int .u8 0, .int .u8 0, .int .u8 0, .int .u8 0, .int .u8 0, .int .u8 0, .int .u8 0, .int .u8 0, .int .u8 0, .int .u8 0, .int .u8 0, .int .u8 0, .int .u8 0, .int .u8 0, .int .u8 0, .int .u8 0, .int .u8 0, .int .u8 0, .int .u8 0, .int .u8 0, .int .u8 0, .int .u8 0, .int .u8 0, .int .u8 0, .int .u8 0, .int .u8 0, .int .u8 0, .int .u8 0, .int .u8 0, .int .u8 0, .int .u8 0, .int .u8 0, .int .u8 0, .int .u8 0, .int .u8 0, .int .u8 0, .int .u8 0, .int .u8 0, .int .u8 0, .int .u8 0, .int .u8 0, .int .u8 0]], []⟩ 8 (by kernel_rfl) (by kernel_rfl) (by kernel_rfl) (by kernel_rfl)) ?_
  intro W base args ds gs before hval hW _ hw _
  exact contract H enc W base args ds gs before hval hW hw

/-- THE STATEMENT -/
theorem proved : Rows.SafetyLooksSaid :=
  OpenClaim.holds_of_wide 6 Try.f6 rfl rfl rfl rfl rfl rfl rfl ⟨rfl, rfl, rfl, rfl, rfl⟩ rfl rfl rfl rfl rfl (by kernel_rfl) Try.func6 (by kernel_rfl)
    (of_decide_eq_true (by kernel_rfl)) (by unfold Func.isWrapper; first | (rw [if_pos (by decide +kernel)]; kernel_rfl) | (rw [if_neg (by decide +kernel)]; exact ⟨rfl, rfl⟩))
    (fun os started H enc _ => lifted os started H enc)
end Go.Proofs.Ytdgbckfnamiebaa.safetyLooks
