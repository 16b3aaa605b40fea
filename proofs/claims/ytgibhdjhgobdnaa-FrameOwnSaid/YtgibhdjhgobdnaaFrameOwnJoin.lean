/- The law 'FrameOwn' holds for every input. -/
import Derived.Test.YtgibhdjhgobdnaaJoin
import Derived.Test.YtgibhdjhgobdnaaFrOpen
import Derived.Test.YtgibhdjhgobdnaaFrF
namespace Go.Proofs.Ytgibhdjhgobdnaa.frameOwn
open Go.ChangeShapes Go.WideShapes Go.ChangeAt Go.RowKit S

theorem contract (H : Type) (enc : TypeId × Value → H) (W : World) (base : Nat) (args : Array Value) (ds gs : List (DataW H)) (before : List MemPlace)
    (hval : ∀ (j : Nat) t v, Try.f6.params[j]? = some t → args[j]? = some v → Value.okWide Try.prog W .any base t v)
    (hW : DataW.Whole enc Try.prog Try.f6.params.toList Rows.frameOwnSpec.vars false W args.toList ds gs before) (hw0 : (DataW.weightsEach Try.prog (Try.f6.params.toList ++ Rows.frameOwnSpec.plain.varTypes Try.prog) (ds ++ gs)).all (· ≤ reachBytes) = true) :
    Calls Try.prog 6 args W fun e W' => ∃ v, e = .returned v ∧ Rows.frameOwnSpec.post enc Try.prog Try.f6 false true false false W args v W' := by
  have hW' := hW
  obtain ⟨p, q, hA0, hV, rfl, hfz, hnd⟩ := hW
  have hA : DataW.TrodAll enc Try.prog W 0 (fun _ => true) true Try.f6.params.toList args.toList ds p := hA0
  rw [Try.params6] at hA hval
  obtain ⟨v0, vs0, d0, ds0, p0, q0, hargs, rfl, rfl, h0, r0⟩ := trodAll_cons hA
  obtain ⟨v1, vs1, d1, ds1, p1, q1, rfl, rfl, rfl, h1, r1⟩ := trodAll_cons r0
  obtain ⟨rfl, rfl, rfl⟩ := trodAll_nil r1
  obtain rfl : args = #[v0, v1] := by cases args; simp_all
  obtain ⟨rfl, rfl⟩ := trodVars_none hV
  clear hA0
  have hw : (DataW.weightsEach P [27, 25] [d0, d1]).all (· ≤ reachBytes) = true := hw0
  clear hw0
  have hv0 := hval 0 27 v0 rfl rfl
  obtain ⟨kind, keys, nums, sigs, data, fr, xs, y, rfl, hy, hdy⟩ := open_frame2 hv0 h0
  have hzf : data.length ≤ 140737488351232 := by
    have hwf := sized_struct (l := [(3, 0), (22, 1), (23, 2), (24, 3), (25, 4)]) (by kernel_rfl) hw (j := 0) rfl rfl
    rcases hdy with ⟨_, rfl⟩ | ⟨ds, sp, rfl, hdl⟩
    · simp
    · have hq := sized_slice hwf (j := 4) rfl hy ty_25
      rw [show P.bytesOf 5 = 1 from by kernel_rfl] at hq
      unfold reachBytes at hq
      omega
  have hv1 := hval 1 25 v1 rfl rfl
  obtain ⟨l, hl, sl, hd⟩ := open_bytes ty_25 ty_5 ce_5 hv1 h1
  have hz : l.length ≤ 140737488351232 := by
    rcases hd with ⟨_, rfl⟩ | ⟨ds, sp, rfl, hdl⟩
    · simp
    · have hq := sized_slice hw (j := 1) rfl rfl ty_25
      rw [show P.bytesOf 5 = 1 from by kernel_rfl] at hq
      unfold reachBytes at hq
      omega
  refine (FrameOwn_any v0 v1 kind keys nums sigs data l W fr sl hz hzf (by simp) (by simp)).mono fun e W' ⟨v, Y, he, hst, hR⟩ => ?_
  obtain rfl : v = .bool true := hR
  exact ⟨_, he, law_post rfl rfl (tb := 4) (by kernel_rfl) (by kernel_rfl) (by rfl) hW' hst⟩

set_option maxRecDepth 100000 in
theorem lifted (os : Os) (started : os.Started) (H : Type) (enc : TypeId × Value → H) :
    ReturnsInHanded {} Try.checked os 6 .any (Rows.frameOwnSpec.pre6 enc Try.prog Try.f6 Rows.frameOwnRow.domain false) (Rows.frameOwnSpec.post enc Try.prog Try.f6 false true false false) := by
  refine returnsInHanded_of_change_sized (C := Try.checked) own started (by kernel_rfl) Try.func6
    (ChangeSpec.witness6 (enc := enc) (C := Try.checked) false ⟨#[], #[.agg #[.int .i64 0, .slice none 0 0, .slice none 0 0, .slice none 0 0, .slice none 0 0], .slice none 0 0], []⟩ 8 (by kernel_rfl) (by kernel_rfl) (by kernel_rfl) (by kernel_rfl)) ?_
  intro W base args ds gs before hval hW _ hw _
  exact contract H enc W base args ds gs before hval hW hw

/-- THE STATEMENT -/
theorem proved : Rows.FrameOwnSaid :=
  OpenClaim.holds_of_wide 6 Try.f6 rfl rfl rfl rfl rfl rfl rfl ⟨rfl, rfl, rfl, rfl, rfl⟩ rfl rfl rfl rfl rfl (by kernel_rfl) Try.func6 (by kernel_rfl)
    (of_decide_eq_true (by kernel_rfl)) (by unfold Func.isWrapper; first | (rw [if_pos (by decide +kernel)]; kernel_rfl) | (rw [if_neg (by decide +kernel)]; exact ⟨rfl, rfl⟩))
    (fun os started H enc _ => lifted os started H enc)
end Go.Proofs.Ytgibhdjhgobdnaa.frameOwn
