/- Append of made noughts. Holds for every program. -/
import Derived.Test.YtlpkcbkflfbclaaDoorOps9
namespace Go.Proofs.YtlpkcbkflfbclaaDoor.S
open Go.RowKit

section rules
variable {C : Ctx} {K : Env → List Blk → Prop} {e : Env} {L : List Blk}
variable {dst : Option Tmp} {ty : TypeId} {pos : String} {after : Array Edge} {guard : Option (Nat × Bool)}

theorem zero_cells1 {z : Value} (n : Nat) : Builtin.zeroCells #[z] n = (List.replicate n z).toArray := by
  unfold Builtin.zeroCells
  apply Array.ext'
  apply List.ext_getElem?
  intro i
  simp only [List.size_toArray, List.length_cons, List.length_nil, Nat.zero_add, Nat.mul_one, Nat.mod_one, Array.toList_map, Array.toList_range]
  rcases Nat.lt_or_ge i n with h | h
  · rw [List.getElem?_map, List.getElem?_replicate, List.getElem?_range h]; simp [h]
  · rw [List.getElem?_eq_none (by simpa using h), List.getElem?_eq_none (by simpa using h)]

theorem wrap64n {n : Nat} (h : n ≤ 281474976710656) : IntKind.i64.wrap (n : Int) = (n : Int) := wrap_i64 _ (by omega) (by omega)

theorem made_fits {n k : Nat} (hn : n * k ≤ 281474976710656) : ¬ (281474976710656 < (n : Int) * (k : Int)) := by
  obtain ⟨q, hq⟩ : ∃ q, q = n * k := ⟨_, rfl⟩
  rw [← Int.natCast_mul, ← hq]; omega

theorem run_appendZ_room {P : Program} {t yt el : TypeId} {i : TypeInfo} {z : Value} (hT : P.underlying t = some (.slice el)) (hY : P.underlying yt = some (.int .i64)) (hi : P.info? el = some i) (hk : i.size = 1) (hz : i.zero = some z) (hzc : z.cells = #[z]) {b off sLen sCap n : Nat} {w w' : World}
    (hn : n * i.bytes ≤ 281474976710656) (hn2 : n ≤ 281474976710656) (hle : sLen + n ≤ sCap) (h3 : (storeCells ⟨b, off + sLen, none⟩ (List.replicate n z) 0).run P w = .ok () w') :
    (Builtin.append_ #[t, yt] ty #[.slice (some ⟨b, off, none⟩) sLen sCap, .int .i64 n]).run P w = .ok (.slice (some ⟨b, off, none⟩) (sLen + n) sCap) w' := by
  have h1 : ¬ ((n : Int) < 0) := by omega
  have h2 := made_fits hn
  have hw := wrap64n hn2
  by_cases h0 : n = 0
  · subst h0
    simp [Builtin.append_, Go.run_underlying hT, Go.run_underlying hY, sizeOf, typeInfo, hi, asInt, asIntOf, hw, hle, hk, addr_add] at hle h3 ⊢
    simp_all
  · simp [Builtin.append_, Go.run_underlying hT, Go.run_underlying hY, sizeOf, typeInfo, zeroValue, hi, hz, hzc, asInt, asIntOf, hw, h1, h2, hle, hk, h0, addr_add, zero_cells1, h3]

theorem run_appendZ_nil {P : Program} {t yt el : TypeId} {i : TypeInfo} (hT : P.underlying t = some (.slice el)) (hY : P.underlying yt = some (.int .i64)) (hi : P.info? el = some i) {w : World} :
    (Builtin.append_ #[t, yt] ty #[.slice none 0 0, .int .i64 0]).run P w = .ok (.slice none 0 0) w := by
  have hw := wrap64n (n := 0) (by decide)
  simp [Builtin.append_, Go.run_underlying hT, Go.run_underlying hY, sizeOf, typeInfo, hi, asInt, asIntOf, show IntKind.i64.wrap 0 = 0 from hw]

theorem run_appendZ_grow {P : Program} {t yt el : TypeId} {i : TypeInfo} {z : Value} (hT : P.underlying t = some (.slice el)) (hY : P.underlying yt = some (.int .i64)) (hi : P.info? el = some i) (hk : i.size = 1) (hz : i.zero = some z) (hzc : z.cells = #[z]) {base : Option Addr} {sLen sCap n : Nat} {old : List Value} {w : World}
    (hn : n * i.bytes ≤ 281474976710656) (hn2 : n ≤ 281474976710656) (h3 : (Builtin.firstCells 1 sLen (.slice base sLen sCap)).run P w.drew = .ok old.toArray w.drew) (hlt : sCap < sLen + n)
    (h0 : n ≠ 0) (h63 : ((sLen + n : Nat) : Int) ≤ 9223372036854775807) (hfit : Builtin.nextslicecap (sLen + n) sCap * i.bytes ≤ 281474976710656) :
    (Builtin.append_ #[t, yt] ty #[.slice base sLen sCap, .int .i64 n]).run P w = .ok (.slice (some ⟨w.heap.size, 0, none⟩) (sLen + n) (grownCap w (sLen + n) sCap el))
      (w.drew.alloc (.cells ((old ++ List.replicate n z).toArray ++ Builtin.zeroCells z.cells (grownCap w (sLen + n) sCap el - (sLen + n))) el)) := by
  have h1 : ¬ ((n : Int) < 0) := by omega
  have h2 := made_fits hn
  have hw := wrap64n hn2
  have hn' : ¬ (sLen + n ≤ sCap) := by omega
  have h63' : ¬ (9223372036854775807 < ((sLen : Int) + (n : Int))) := by omega
  have h48' : ¬ (281474976710656 < Builtin.nextslicecap (sLen + n) sCap * i.bytes) := by omega
  simp [Builtin.append_, Go.run_underlying hT, Go.run_underlying hY, sizeOf, typeInfo, zeroValue, hi, hz, hzc, asInt, asIntOf, hw, h1, h2, hk, h0, hn', h63', h48', Question.forced, h3, newRow, grownCap, zero_cells1]
  congr 2
  apply Array.ext'
  simp only [Array.toList_append, Array.toList_replicate, List.append_assoc, List.replicate_append_replicate]

/-- append of made noughts: the slice is the call's own. -/
theorem T1.appendZ {x y : Operand} {t yt el : TypeId} {n bytes : Nat} {s : Value} {xs : List Value} {Ls G : List Blk} {z : Value} (hT : C.P.underlying t = some (.slice el)) (hY : C.P.underlying yt = some (.int .i64))
    (hk : SizeIs C.P el 1) (hb : BytesIs C.P el bytes) (hz : ZeroIs C.P el z) (hzc : z.cells = #[z]) (hz1 : one z = true) (hbpos : 0 < bytes) (hx : ev C.n e x = s) (hyv : ev C.n e y = .int .i64 (n : Int)) (hsl : Sl s xs 1 Ls)
    (N : Nat) (hN : xs.length + n ≤ N) (hroom : (N + N / 4 + 192) * bytes ≤ 281474976710656) (hpk : PickS L Ls G)
    (kk : ∀ s' Ls', Sl s' (xs ++ List.replicate n z) 1 Ls' → K (putO e dst s') (Ls' ++ G)) : T1 C ⟨dst, .call ⟨.builtin .append, (List.toArray [x, y]), (List.toArray [t, yt])⟩, ty, pos, after, guard⟩ K e L := by
  intro a w K' Q' hr hs hK
  unfold Oper.wp
  rw [hr.eval]
  replace hs : St C.w0 C.M ([] ++ (Ls ++ G)) w := hs.perm hpk.perm.symm
  have hsubs : ∀ Y, Sub ([] ++ (Ls ++ G)) Ls ([] ++ (Y ++ G)) Y := fun Y => .far .here
  obtain ⟨iel, hiel, hibytes⟩ := Option.map_eq_some_iff.1 hb
  have hik : iel.size = 1 := by have := hk; unfold SizeIs at this; rw [hiel] at this; simpa using this
  have hiz : iel.zero = some z := by have := hz; unfold ZeroIs at this; rw [hiel] at this; simpa using this
  have hexec : execOp (ev C.n e) ⟨dst, .call ⟨.builtin .append, (List.toArray [x, y]), (List.toArray [t, yt])⟩, ty, pos, after, guard⟩ = (do pure (Next.value (← Builtin.append_ #[t, yt] ty #[s, .int .i64 (n : Int)])) : Sem Next) := by
    show Go.builtin .append #[t, yt] ty ((List.toArray [x, y]).map fun | .const _ => true | _ => false) ((List.toArray [x, y]).map (ev C.n e)) = _
    rw [show (List.toArray [x, y]).map (ev C.n e) = #[s, .int .i64 (n : Int)] from by rw [List.map_toArray]; simp [hx, hyv]]
    rfl
  rw [hexec]
  obtain ⟨base, sLen, sCap, rfl, hxl, hself⟩ := hsl.form (C := C) Nat.one_pos (F := []) (G := G)
  rw [Nat.mul_one] at hxl
  have hneed : sLen + n ≤ N := by omega
  have hnb : N ≤ 281474976710656 := by
    have : N * 1 ≤ (N + N / 4 + 192) * bytes := Nat.mul_le_mul (by omega) hbpos
    omega
  have hnbytes : n * iel.bytes ≤ 281474976710656 := by
    rw [hibytes]
    exact Nat.le_trans (Nat.mul_le_mul_right _ (by omega)) hroom
  have hnl : (List.replicate n z).length = n := List.length_replicate
  have hrunA : ∃ w' s', (Builtin.append_ #[t, yt] ty #[.slice base sLen sCap, .int .i64 (n : Int)]).run C.P w = .ok s' w' ∧ ∃ Ls', St C.w0 C.M ([] ++ (Ls' ++ G)) w' ∧ Sl s' (xs ++ List.replicate n z) 1 Ls' := by
    by_cases hle : sLen + n ≤ sCap
    · rcases hsl with ⟨heq, rfl, rfl⟩ | ⟨b, off, len, cap, size, heq, h1, h2, h3, rfl⟩
      · cases heq
        have hn0 : n = 0 := by omega
        subst hn0
        exact ⟨w, _, run_appendZ_nil hT hY hiel, [], hs, .inl ⟨rfl, rfl, rfl⟩⟩
      · cases heq
        rw [Nat.mul_one] at h1 h3
        have hin := (hs.piece (hsubs [])).2 ⟨b, off, xs, size⟩ (by simp)
        obtain ⟨c, E, lo, hi, hh, hsz, _, hf⟩ := hin.here
        have hsz' : c.size = size := hsz
        have hst := run_storeCells (P := C.P) (List.replicate n z) (off + sLen) 0 w c E lo hi hh (by rw [hnl, hsz']; omega) (by intro q hq; have hf' : lo = hi ∨ size ≤ lo := hf.1; omega) (fun u hu => by rw [List.eq_of_mem_replicate hu]; exact hz1)
        refine ⟨_, _, run_appendZ_room hT hY hiel hik hiz hzc hnbytes (by omega) hle hst, [⟨b, off, xs ++ List.replicate n z, size⟩], ?_, Sl.mk (by simp [h1]) (by omega) (by omega)⟩
        obtain ⟨f1, f2, f3, f4, f5⟩ := setCellsAt_fields b (List.replicate n z) (off + sLen + 0) w
        refine hs.turn (hsubs _) rfl f1 f2 f3 f4 f5 ?_
        have := In_extend hin (vs := List.replicate n z) (by show off + xs.length + (List.replicate n z).length ≤ size; rw [h1, hnl]; omega)
        simpa [h1] using this
    · have hle2 : sLen ≤ sCap := by
        rcases hsl with ⟨heq, _, _⟩ | ⟨b, off, len, cap, size, heq, h1, h2, h3, rfl⟩ <;> cases heq
        · exact Nat.le_refl _
        · exact h2
      have hs1 : St C.w0 C.M ([] ++ (Ls ++ G)) w.drew := hs.drew _ (Nat.le_succ _)
      have hfit := growslice_fits_wide (need := sLen + n) (old := sCap) (bytes := iel.bytes) (by omega) (by
        rw [hibytes]
        exact Nat.le_trans (Nat.mul_le_mul_right _ (by omega)) hroom)
      have hrun := run_appendZ_grow (ty := ty) (base := base) (old := xs) hT hY hiel hik hiz hzc hnbytes (by omega) (run_firstCells hself hs1) (by omega) (by omega) (by omega) hfit
      have hge : sLen + n ≤ grownCap w (sLen + n) sCap el := by unfold grownCap Question.cut; exact Nat.le_add_right _ _
      generalize grownCap w (sLen + n) sCap el = nc at hge hrun
      have hzcs : (Builtin.zeroCells z.cells (nc - (sLen + n))).size = nc - (sLen + n) := by rw [hzc, zero_cells1]; simp
      refine ⟨_, _, hrun, [⟨w.heap.size, 0, xs ++ List.replicate n z, nc⟩], ?_, Sl.mk (by simp [hxl]) hge (by omega)⟩
      have hbase : St C.w0 C.M G w.drew := hs1.sub (List.sublist_append_right _ _)
      exact hbase.push (B := ⟨w.heap.size, 0, xs ++ List.replicate n z, nc⟩) (c := (xs ++ List.replicate n z).toArray ++ Builtin.zeroCells z.cells (nc - (sLen + n))) (E := el) (lo := 0) (hi := 0) (k := w.drawn + 1) rfl
        (by show 0 + (xs ++ List.replicate n z).length ≤ nc; simp only [List.length_append, hxl, hnl, Nat.zero_add]; exact hge)
        (by
          show ((xs ++ List.replicate n z).toArray ++ _).size = nc
          simp only [Array.size_append, List.size_toArray, List.length_append, hxl, hnl, hzcs]; omega)
        (by
          intro i hi
          show ((xs ++ List.replicate n z).toArray ++ _)[0 + i]? = (xs ++ List.replicate n z)[i]?
          have hi' : i < (xs ++ List.replicate n z).length := hi
          rw [Nat.zero_add, Array.getElem?_append, if_pos (by simpa using hi')]
          simp)
        (by omega)
  obtain ⟨w', s', hrun, Ls', hst', hsl'⟩ := hrunA
  rw [run_value hrun]
  exact hK _ _ _ _ (hr.put _ _) hst' (kk s' Ls' hsl')
end rules
end Go.Proofs.YtlpkcbkflfbclaaDoor.S
