/- The law 'PostOwn' holds for every input. -/
import Derived.Test.YtijijaobialncaaJoin
import Derived.Test.YtijijaobialncaaOpen
import Derived.Test.YtijijaobialncaaOH
namespace Go.Proofs.Ytijijaobialncaa.postOwn
open Go.ChangeShapes Go.WideShapes Go.ChangeAt Go.RowKit S

set_option maxRecDepth 100000 in
theorem contract (H : Type) (enc : TypeId × Value → H) (W : World) (base : Nat) (args : Array Value) (ds gs : List (DataW H)) (before : List MemPlace)
    (hval : ∀ (j : Nat) t v, Try.f7.params[j]? = some t → args[j]? = some v → Value.okWide Try.prog W .any base t v)
    (hW : DataW.Whole enc Try.prog Try.f7.params.toList Rows.postOwnSpec.vars false W args.toList ds gs before) (hw0 : (DataW.weightsEach Try.prog (Try.f7.params.toList ++ Rows.postOwnSpec.plain.varTypes Try.prog) (ds ++ gs)).all (· ≤ reachBytes) = true) :
    Calls Try.prog 7 args W fun e W' => ∃ v, e = .returned v ∧ Rows.postOwnSpec.post enc Try.prog Try.f7 false true false false W args v W' := by
  have hW' := hW
  obtain ⟨p, q, hA0, hV, rfl, hfz, hnd⟩ := hW
  have hA : DataW.TrodAll enc Try.prog W 0 (fun _ => true) true Try.f7.params.toList args.toList ds p := hA0
  rw [Try.params7] at hA hval
  obtain ⟨v0, vs0, d0, ds0, p0, q0, hargs, rfl, rfl, h0, r0⟩ := trodAll_cons hA
  obtain ⟨v1, vs1, d1, ds1, p1, q1, rfl, rfl, rfl, h1, r1⟩ := trodAll_cons r0
  obtain ⟨rfl, rfl, rfl⟩ := trodAll_nil r1
  obtain rfl : args = #[v0, v1] := by cases args; simp_all
  obtain ⟨rfl, rfl⟩ := trodVars_none hV
  clear hA0
  have hw : (DataW.weightsEach P [29, 39] [d0, d1]).all (· ≤ reachBytes) = true := hw0
  clear hw0
  have hv0 := hval 0 29 v0 rfl rfl
  obtain ⟨l, hl, sl, _⟩ := open_bytes ty_29 ty_5 ce_5 hv0 h0
  have hv1 := hval 1 39 v1 rfl rfl
  obtain ⟨f, fr, xs, y1, y2, y3, y4, rfl, hy1, hy2, hy3, hy4, g1, g2, g3, g4⟩ := open_frame3 hv1 h1
  have hwf := sized_struct (l := [(3, 0), (35, 1), (36, 2), (37, 3), (29, 4)]) (by kernel_rfl) hw (j := 1) rfl rfl
  have hz1 : f.keys.length ≤ 4398046510976 := by
    rcases g1 with ⟨_, hg⟩ | ⟨ds, sp, rfl, hdl⟩
    · rw [hg]; simp
    · have hq := sized_slice hwf (j := 1) rfl hy1 ty_35
      rw [show P.bytesOf 60 = 32 from by kernel_rfl] at hq
      unfold reachBytes at hq
      omega
  have hz2 : f.nums.length ≤ 35184372087808 := by
    rcases g2 with ⟨_, hg⟩ | ⟨ds, sp, rfl, hdl⟩
    · rw [hg]; simp
    · have hq := sized_slice hwf (j := 2) rfl hy2 ty_36
      rw [show P.bytesOf 27 = 4 from by kernel_rfl] at hq
      unfold reachBytes at hq
      omega
  have hz3 : f.sigs.length ≤ 2199023255488 := by
    rcases g3 with ⟨_, hg⟩ | ⟨ds, sp, rfl, hdl⟩
    · rw [hg]; simp
    · have hq := sized_slice hwf (j := 3) rfl hy3 ty_37
      rw [show P.bytesOf 86 = 64 from by kernel_rfl] at hq
      unfold reachBytes at hq
      omega
  have hz4 : f.data.length ≤ 140737488351232 := by
    rcases g4 with ⟨_, hg⟩ | ⟨ds, sp, rfl, hdl⟩
    · rw [hg]; simp
    · have hq := sized_slice hwf (j := 4) rfl hy4 ty_29
      rw [show P.bytesOf 5 = 1 from by kernel_rfl] at hq
      unfold reachBytes at hq
      omega
  refine (PostOwn_any v0 v1 l f W sl fr hz1 hz2 hz3 hz4 (by simp) (by simp)).mono fun e W' ⟨v, Y, he, hst, hR⟩ => ?_
  obtain rfl : v = .bool true := hR
  exact ⟨_, he, law_post rfl rfl (tb := 4) (by kernel_rfl) (by kernel_rfl) (by rfl) hW' hst⟩

set_option maxRecDepth 100000 in
theorem lifted (os : Os) (started : os.Started) (H : Type) (enc : TypeId × Value → H) :
    ReturnsInHanded {} Try.checked os 7 .any (Rows.postOwnSpec.pre6 enc Try.prog Try.f7 Rows.postOwnRow.domain false) (Rows.postOwnSpec.post enc Try.prog Try.f7 false true false false) := by
  refine returnsInHanded_of_change_sized (C := Try.checked) own started (by kernel_rfl) Try.func7
    (ChangeSpec.witness6 (enc := enc) (C := Try.checked) false ⟨#[], #[.slice none 0 0, .agg #[.int .i64 0, .slice none 0 0, .slice none 0 0, .slice none 0 0, .slice none 0 0]], []⟩ 8 (by kernel_rfl) (by kernel_rfl) (by kernel_rfl) (by kernel_rfl)) ?_
  intro W base args ds gs before hval hW _ hw _
  exact contract H enc W base args ds gs before hval hW hw

/-- THE STATEMENT -/
theorem proved : Rows.PostOwnSaid :=
  OpenClaim.holds_of_wide 7 Try.f7 rfl rfl rfl rfl rfl rfl rfl ⟨rfl, rfl, rfl, rfl, rfl⟩ rfl rfl rfl rfl rfl (by kernel_rfl) Try.func7 (by kernel_rfl)
    (of_decide_eq_true (by kernel_rfl)) (by unfold Func.isWrapper; first | (rw [if_pos (by decide +kernel)]; kernel_rfl) | (rw [if_neg (by decide +kernel)]; exact ⟨rfl, rfl⟩))
    (fun os started H enc _ => lifted os started H enc)
end Go.Proofs.Ytijijaobialncaa.postOwn
