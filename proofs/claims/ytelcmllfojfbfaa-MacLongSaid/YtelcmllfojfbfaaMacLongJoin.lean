/- The law 'MacLong' holds for every input. -/
import Derived.Test.YtelcmllfojfbfaaJoin
import Derived.Test.YtelcmllfojfbfaaOpen2
import Derived.Test.YtelcmllfojfbfaaMB
namespace Go.Proofs.Ytelcmllfojfbfaa.macLong
open Go.ChangeShapes Go.WideShapes Go.ChangeAt Go.RowKit S

theorem contract (H : Type) (enc : TypeId × Value → H) (W : World) (base : Nat) (args : Array Value) (ds gs : List (DataW H)) (before : List MemPlace)
    (hval : ∀ (j : Nat) t v, Try.f5.params[j]? = some t → args[j]? = some v → Value.okWide Try.prog W .any base t v)
    (hW : DataW.Whole enc Try.prog Try.f5.params.toList Rows.macLongSpec.vars false W args.toList ds gs before) (hw0 : (DataW.weightsEach Try.prog (Try.f5.params.toList ++ Rows.macLongSpec.plain.varTypes Try.prog) (ds ++ gs)).all (· ≤ reachBytes) = true) :
    Calls Try.prog 5 args W fun e W' => ∃ v, e = .returned v ∧ Rows.macLongSpec.post enc Try.prog Try.f5 false true false false W args v W' := by
  have hW' := hW
  obtain ⟨p, q, hA0, hV, rfl, hfz, hnd⟩ := hW
  have hA : DataW.TrodAll enc Try.prog W 0 (fun _ => true) true Try.f5.params.toList args.toList ds p := hA0
  rw [Try.params5] at hA hval
  obtain ⟨v0, vs0, d0, ds0, p0, q0, hargs, rfl, rfl, h0, r0⟩ := trodAll_cons hA
  obtain ⟨v1, vs1, d1, ds1, p1, q1, rfl, rfl, rfl, h1, r1⟩ := trodAll_cons r0
  obtain ⟨v2, vs2, d2, ds2, p2, q2, rfl, rfl, rfl, h2, r2⟩ := trodAll_cons r1
  obtain ⟨rfl, rfl, rfl⟩ := trodAll_nil r2
  obtain rfl : args = #[v0, v1, v2] := by cases args; simp_all
  obtain ⟨rfl, rfl⟩ := trodVars_none hV
  clear hA0
  have hw : (DataW.weightsEach P [22, 22, 3] [d0, d1, d2]).all (· ≤ reachBytes) = true := hw0
  clear hw0
  have hv0 := hval 0 22 v0 rfl rfl
  obtain ⟨la, hla, sla, hda⟩ := open_bytes ty_22 ty_5 ce_5 hv0 h0
  have hza : la.length ≤ 140737488355328 := by
    rcases hda with ⟨_, rfl⟩ | ⟨ds, sp, rfl, hdl⟩
    · simp
    · have hq := sized_slice hw (j := 0) rfl rfl ty_22
      rw [show P.bytesOf 5 = 1 from by kernel_rfl] at hq
      unfold reachBytes at hq
      omega
  have hv1 := hval 1 22 v1 rfl rfl
  obtain ⟨lb, hlb, slb, hdb⟩ := open_bytes ty_22 ty_5 ce_5 hv1 h1
  have hzb : lb.length ≤ 140737488355328 := by
    rcases hdb with ⟨_, rfl⟩ | ⟨ds, sp, rfl, hdl⟩
    · simp
    · have hq := sized_slice hw (j := 1) rfl rfl ty_22
      rw [show P.bytesOf 5 = 1 from by kernel_rfl] at hq
      unfold reachBytes at hq
      omega
  have hv2 := hval 2 3 v2 rfl rfl
  obtain ⟨a2, rfl, rfl, rfl, w2⟩ := open_int Try.underlying3 hv2 h2
  refine (MacLong_any v0 v1 la lb a2 W sla slb hza hzb (by simp) (by simp)).mono fun e W' ⟨v, Y, he, hst, hR⟩ => ?_
  obtain rfl : v = .bool true := hR
  exact ⟨_, he, law_post rfl rfl (tb := 4) (by kernel_rfl) (by kernel_rfl) (by rfl) hW' hst⟩

set_option maxRecDepth 100000 in
theorem lifted (os : Os) (started : os.Started) (H : Type) (enc : TypeId × Value → H) :
    ReturnsInHanded {} Try.checked os 5 .any (Rows.macLongSpec.pre6 enc Try.prog Try.f5 Rows.macLongRow.domain false) (Rows.macLongSpec.post enc Try.prog Try.f5 false true false false) := by
  refine returnsInHanded_of_change_sized (C := Try.checked) own started (by kernel_rfl) Try.func5
    (ChangeSpec.witness6 (enc := enc) (C := Try.checked) false ⟨#[], #[.slice none 0 0, .slice none 0 0, .int .i64 0], []⟩ 8 (by kernel_rfl) (by kernel_rfl) (by kernel_rfl) (by kernel_rfl)) ?_
  intro W base args ds gs before hval hW _ hw _
  exact contract H enc W base args ds gs before hval hW hw

/-- THE STATEMENT -/
theorem proved : Rows.MacLongSaid :=
  OpenClaim.holds_of_wide 5 Try.f5 rfl rfl rfl rfl rfl rfl rfl ⟨rfl, rfl, rfl, rfl, rfl⟩ rfl rfl rfl rfl rfl (by kernel_rfl) Try.func5 (by kernel_rfl)
    (of_decide_eq_true (by kernel_rfl)) (by unfold Func.isWrapper; first | (rw [if_pos (by decide +kernel)]; kernel_rfl) | (rw [if_neg (by decide +kernel)]; exact ⟨rfl, rfl⟩))
    (fun os started H enc _ => lifted os started H enc)
end Go.Proofs.Ytelcmllfojfbfaa.macLong
