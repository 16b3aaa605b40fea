/- The document's Decode. -/
import Derived.Test.YtgibhdjhgobdnaaFr5
import Derived.Test.YtgibhdjhgobdnaaFr9
namespace Go.Proofs.Ytgibhdjhgobdnaa.S
open Go.RowKit

theorem getD_drop (l : List UInt8) (p i : Nat) : (l.drop p).getD i 0 = l.getD (p + i) 0 := by
  rw [List.getD_eq_getElem?_getD, List.getElem?_drop, ← List.getD_eq_getElem?_getD]
theorem rd32_drop (l : List UInt8) (p : Nat) : rd32 (l.drop p) 0 = rd32 l p := by
  unfold rd32
  simp only [getD_drop, Nat.zero_add, Nat.add_zero]
/-- The cells of an array that is being filled. -/
def part (k : Nat) (l : List UInt8) (j : Nat) : List UInt8 := l.take j ++ List.replicate (k - j) 0
theorem part_len {k j : Nat} {l : List UInt8} (h1 : j ≤ k) (h2 : k ≤ l.length) : (part k l j).length = k := by unfold part; rw [List.length_append, List.length_take, List.length_replicate]; omega
theorem part_step {k j : Nat} {l : List UInt8} {c : UInt8} (h1 : j < k) (h2 : k ≤ l.length) (hc : l[j]? = some c) : ((part k l j).map byteV).set j (byteV c) = (part k l (j + 1)).map byteV := by
  rw [← List.map_set]
  congr 1
  unfold part
  have e : k - j = (k - (j + 1)) + 1 := by omega
  have ht : (l.take j).length = j := by rw [List.length_take]; omega
  rw [e, List.replicate_succ, List.set_append_right _ _ (by omega), ht, Nat.sub_self, List.set_cons_zero, List.take_add_one, hc]
  simp
theorem part_all {k : Nat} {l : List UInt8} : part k l k = l.take k := by unfold part; simp

theorem chunks_flat_le (k n : Nat) (l : List UInt8) : (chunks k n l).flatten.length ≤ n * k := by
  induction n with
  | zero => simp [chunks]
  | succ n ih =>
    rw [chunks_succ, List.flatten_append, List.length_append, Nat.succ_mul]
    have := List.length_take_le k (l.drop (k * n))
    rw [List.flatten_cons, List.flatten_nil, List.append_nil]
    omega

set_option maxHeartbeats 4000000 in
theorem refDecode_any (l : List UInt8) (w : World) (hl : l.length < 9223372036854775808) : Fn P 16 [.string (bstr l)] w [] (decR l) := by
  refine Fn.of 156 [.cell 2 27, .tmp 3] Go.Proofs.Try.func16 rfl rfl rfl rfl ?_
  refine T.seq ?_
  refine T.region ?_
  refine TL.cons rfl (T1.allocN 5 zr_27 rfl (fun b2 => ?_))
  refine TL.cons rfl (V1.t (V1.assign' (by (conv => lhs; whnf) <;> rfl)) ?_)
  refine TL.nil ?_
  refine T.seq ?_
  refine T.seq ?_
  refine T.region ?_
  refine TL.cons rfl (V1.t (V1.move' (by (conv => lhs; whnf) <;> rfl)) ?_)
  refine TL.cons rfl (T1.eqS_split (m := []) rfl rfl (fun h1_1 => ?_) (fun h1_1 => ?_))
  ·
    refine TL.nil ?_
    refine T.cond_t rfl ?_
    refine T.seq ?_
    refine T.region ?_
    refine TL.cons rfl (V1.t (V1.build0 pl_27 zr_27) ?_)
    refine TL.cons rfl (T1.storeN rfl rfl sz_27 (ones rfl) (by repeat (first | exact Sub.one | apply Sub.there | apply Sub.far)) (by rfl) (by rfl) ?_)
    refine TL.cons rfl (V1.t (V1.assign' (by (conv => lhs; whnf) <;> rfl)) ?_)
    refine TL.nil ?_
    refine T.ret ?_
    subst h1_1
    exact ⟨_, [], _, .cons (.cellN rfl one_27 sz_27 (RdN.whole (by repeat (first | exact Find.here | apply Find.there | apply Find.far))) (by rfl)) (.cons (.tmp (by (conv => lhs; whnf) <;> rfl)) .nil), (by repeat (first | exact Take.nil | apply Take.one (by repeat (first | exact Pick.here | apply Pick.there | apply Pick.far)) | apply Take.seg (by repeat (first | exact PickS.last | exact PickS.one | exact PickS.here | exact PickS.nil | apply PickS.there | apply PickS.far)) | exact Take.last (by repeat (first | exact PickS.last | exact PickS.one | exact PickS.here | exact PickS.nil | apply PickS.there | apply PickS.far)))), decR_err (rfl)⟩
  ·
    refine TL.nil ?_
    refine T.cond_f rfl ?_
    refine T.skip ?_
    refine T.seq ?_
    refine T.region ?_
    refine TL.cons rfl (V1.t (V1.move' (by (conv => lhs; whnf) <;> rfl)) ?_)
    obtain ⟨c1, tl, rfl⟩ : ∃ c1 tl, l = c1 :: tl := by (cases l with | nil => exact absurd rfl h1_1 | cons c1 tl => exact ⟨_, _, rfl⟩)
    have u0 := u8_lt c1
    have hbs : (bstr (c1 :: tl)).size = (c1 :: tl).length := rfl
    refine TL.cons rfl (V1.t (V1.indexStr (c := c1) ty_9 rfl rfl (by omega) rfl) ?_)
    refine TL.cons rfl (V1.t (V1.conv ty_5 ty_3 rfl (wrap_i64 _ (by omega) (by omega))) ?_)
    refine TL.cons rfl (V1.t (V1.buildF pl_27 zr_27 (.one rfl (by (conv => lhs; whnf) <;> rfl) rfl .nil) (by repeat (first | exact FillL.nil | exact SetN.done | apply SetN.here | apply SetN.there | apply FillL.cons))) ?_)
    refine TL.cons rfl (T1.allocN 5 zr_27 rfl (fun b4 => ?_))
    refine TL.cons rfl (T1.storeN rfl rfl sz_27 (ones rfl) (by repeat (first | exact Sub.one | apply Sub.there | apply Sub.far)) (by rfl) (by rfl) ?_)
    refine TL.nil ?_
    refine T.seq ?_
    refine T.region ?_
    refine TL.cons rfl (V1.t (V1.fieldAddr fl_27_0 rfl) ?_)
    refine TL.cons rfl (V1.t (V1.load1 one_3 rfl (.own (by repeat (first | exact Find.here | apply Find.there | apply Find.far)) (by rfl))) ?_)
    refine TL.cons rfl (T1.call0 has_13 rfl (fun w hs => refShape_any _ w) (fun v hv => ?_))
    rcases shapeR_cases (c1.toNat : Nat) with ⟨sa, sb, sc, ha, hb, hc, hshp, h2⟩ | ⟨sa, sb, sc, ha, hb, hc, hshp, h2⟩ | ⟨sa, sb, sc, ha, hb, hc, hshp, h2⟩ <;> rw [h2] at hv <;> subst hv
    ·
      refine TL.cons rfl (V1.t (V1.move' (by (conv => lhs; whnf) <;> rfl)) ?_)
      refine TL.cons rfl (V1.t (V1.extract rfl (by rfl)) ?_)
      refine TL.cons rfl (V1.t (V1.extract rfl (by rfl)) ?_)
      refine TL.cons rfl (T1.allocN 4 zr_39 rfl (fun b5 => ?_))
      refine TL.cons rfl (T1.storeN rfl rfl sz_39 (ones rfl) (by repeat (first | exact Sub.one | apply Sub.there | apply Sub.far)) (by rfl) (by rfl) ?_)
      refine TL.cons rfl (V1.t (V1.assign' (by (conv => lhs; whnf) <;> rfl)) ?_)
      refine TL.nil ?_
      refine T.seq ?_
      refine T.seq ?_
      refine T.live (l := [(0, _), (2, _), (4, _), (5, _), (6, _)]) (.cons (by (conv => lhs; whnf) <;> rfl) (.cons (by (conv => lhs; whnf) <;> rfl) (.cons (by (conv => lhs; whnf) <;> rfl) (.cons (by (conv => lhs; whnf) <;> rfl) (.cons (by (conv => lhs; whnf) <;> rfl) .nil))))) (fun e_ => ?_)
      refine T.region ?_
      refine TL.cons rfl (V1.t (V1.move' (by (conv => lhs; whnf) <;> rfl)) ?_)
      refine TL.cons rfl (V1.t (V1.not rfl rfl) ?_)
      refine TL.nil ?_
      refine T.cond_f rfl ?_
      refine T.skip ?_
      refine T.seq ?_
      refine T.region ?_
      refine TL.cons rfl (V1.t (V1.indexAddrA ty_39 sz_3 rfl rfl (by decide) (by decide)) ?_)
      refine TL.cons rfl (V1.t (V1.load1 one_3 rfl (.own (by repeat (first | exact Find.here | apply Find.there | apply Find.far)) (by rfl))) ?_)
      refine TL.cons rfl (V1.t (V1.mul rfl rfl (wrap_i64 _ (by omega) (by omega))) ?_)
      refine TL.cons rfl (V1.t (V1.add rfl rfl (wrap_i64 _ (by omega) (by omega))) ?_)
      refine TL.cons rfl (V1.t (V1.indexAddrA ty_39 sz_3 rfl rfl (by decide) (by decide)) ?_)
      refine TL.cons rfl (V1.t (V1.load1 one_3 rfl (.own (by repeat (first | exact Find.here | apply Find.there | apply Find.far)) (by rfl))) ?_)
      refine TL.cons rfl (V1.t (V1.mul rfl rfl (wrap_i64 _ (by omega) (by omega))) ?_)
      refine TL.cons rfl (V1.t (V1.add rfl rfl (wrap_i64 _ (by omega) (by omega))) ?_)
      refine TL.cons rfl (V1.t (V1.indexAddrA ty_39 sz_3 rfl rfl (by decide) (by decide)) ?_)
      refine TL.cons rfl (V1.t (V1.load1 one_3 rfl (.own (by repeat (first | exact Find.here | apply Find.there | apply Find.far)) (by rfl))) ?_)
      refine TL.cons rfl (V1.t (V1.mul rfl rfl (wrap_i64 _ (by omega) (by omega))) ?_)
      refine TL.cons rfl (V1.t (V1.add rfl rfl (wrap_i64 _ (by omega) (by omega))) ?_)
      refine TL.cons rfl (V1.t (V1.indexAddrA ty_39 sz_3 rfl rfl (by decide) (by decide)) ?_)
      refine TL.cons rfl (V1.t (V1.load1 one_3 rfl (.own (by repeat (first | exact Find.here | apply Find.there | apply Find.far)) (by rfl))) ?_)
      refine TL.cons rfl (V1.t (V1.mul rfl rfl (wrap_i64 _ (by omega) (by omega))) ?_)
      refine TL.cons rfl (V1.t (V1.add (c := (((1 + 32 * sa + 4 * sb + 64 * sc + 4) : Nat) : Int)) rfl rfl (by rw [wrap_i64 _ (by omega) (by omega)]; omega)) ?_)
      refine TL.cons rfl (V1.t (V1.assign' (by (conv => lhs; whnf) <;> rfl)) ?_)
      refine TL.nil ?_
      refine T.seq ?_
      refine T.seq ?_
      refine T.live (l := [(0, _), (2, _), (4, _), (5, _), (7, _)]) (.cons (by (conv => lhs; whnf) <;> rfl) (.cons (by (conv => lhs; whnf) <;> rfl) (.cons (by (conv => lhs; whnf) <;> rfl) (.cons (by (conv => lhs; whnf) <;> rfl) (.cons (by (conv => lhs; whnf) <;> rfl) .nil))))) (fun e_ => ?_)
      refine T.region ?_
      refine TL.cons rfl (V1.t (V1.move' (by (conv => lhs; whnf) <;> rfl)) ?_)
      refine TL.cons rfl (V1.t (V1.lenS ty_9 rfl) ?_)
      refine TL.cons rfl (V1.t (V1.move' (by (conv => lhs; whnf) <;> rfl)) ?_)
      refine TL.cons rfl (T1.ltI_split rfl rfl (fun h8_3 => ?_) (fun h8_3 => ?_))
      ·
        refine TL.nil ?_
        refine T.cond_t rfl ?_
        refine T.seq ?_
        refine T.region ?_
        refine TL.cons rfl (V1.t (V1.build0 pl_27 zr_27) ?_)
        refine TL.cons rfl (T1.storeN rfl rfl sz_27 (ones rfl) (by repeat (first | exact Sub.one | apply Sub.there | apply Sub.far)) (by rfl) (by rfl) ?_)
        refine TL.cons rfl (V1.t (V1.assign' (by (conv => lhs; whnf) <;> rfl)) ?_)
        refine TL.nil ?_
        refine T.ret ?_
        exact ⟨_, [], _, .cons (.cellN rfl one_27 sz_27 (RdN.whole (by repeat (first | exact Find.here | apply Find.there | apply Find.far))) (by rfl)) (.cons (.tmp (by (conv => lhs; whnf) <;> rfl)) .nil), (by repeat (first | exact Take.nil | apply Take.one (by repeat (first | exact Pick.here | apply Pick.there | apply Pick.far)) | apply Take.seg (by repeat (first | exact PickS.last | exact PickS.one | exact PickS.here | exact PickS.nil | apply PickS.there | apply PickS.far)) | exact Take.last (by repeat (first | exact PickS.last | exact PickS.one | exact PickS.here | exact PickS.nil | apply PickS.there | apply PickS.far)))), decR_err (by rw [decF_data rfl hshp rfl, if_pos (by omega)])⟩
      ·
        refine TL.nil ?_
        refine T.cond_f rfl ?_
        refine T.skip ?_
        refine T.seq ?_
        refine T.region ?_
        refine TL.cons rfl (V1.t (V1.assign' (by (conv => lhs; whnf) <;> rfl)) ?_)
        refine TL.nil ?_
        refine T.seq ?_
        refine T.seq ?_
        refine T.region ?_
        refine TL.cons rfl (V1.t (V1.indexAddrA ty_39 sz_3 rfl rfl (by decide) (by decide)) ?_)
        refine TL.cons rfl (V1.t (V1.load1 one_3 rfl (.own (by repeat (first | exact Find.here | apply Find.there | apply Find.far)) (by rfl))) ?_)
        refine TL.cons rfl (V1.t (V1.eqI rfl rfl (decide_eq_true (by omega))) ?_)
        refine TL.nil ?_
        refine T.cond_t rfl ?_
        refine T.region ?_
        refine TL.cons rfl (V1.t (V1.move' (by (conv => lhs; whnf) <;> rfl)) ?_)
        refine TL.cons rfl (V1.t (V1.move' (by (conv => lhs; whnf) <;> rfl)) ?_)
        refine TL.cons rfl (V1.t (V1.sub (c := (((1 + 32 * sa + 4 * sb + 64 * sc) : Nat) : Int)) rfl rfl (by rw [wrap_i64 _ (by omega) (by omega)]; omega)) ?_)
        refine TL.cons rfl (T1.call0 («as» := [.string (bstr (c1 :: tl)), .int .i64 ((1 + 32 * sa + 4 * sb + 64 * sc) : Nat)]) has_23 rfl (fun w hs => refread_any (c1 :: tl) (1 + 32 * sa + 4 * sb + 64 * sc) w (by omega) (by omega)) (fun v hv => ?_))
        obtain ⟨n, hn⟩ : ∃ n, n = rd32 (c1 :: tl) (1 + 32 * sa + 4 * sb + 64 * sc) := ⟨_, rfl⟩
        have hnl := rd32_lt (c1 :: tl) (1 + 32 * sa + 4 * sb + 64 * sc)
        rw [← hn] at hv hnl
        subst hv
        refine TL.cons rfl (V1.t (V1.assign' (by (conv => lhs; whnf) <;> rfl)) ?_)
        refine TL.nil ?_
        refine T.seq ?_
        refine T.seq ?_
        refine T.region ?_
        refine TL.cons rfl (V1.t (V1.move' (by (conv => lhs; whnf) <;> rfl)) ?_)
        refine TL.cons rfl (T1.gtI_split rfl rfl (fun h13_1 => ?_) (fun h13_1 => ?_))
        ·
          refine TL.nil ?_
          refine T.cond_t rfl ?_
          refine T.seq ?_
          refine T.live (l := [(2, _)]) (.cons (by (conv => lhs; whnf) <;> rfl) .nil) (fun e_ => ?_)
          refine T.region ?_
          refine TL.cons rfl (V1.t (V1.build0 pl_27 zr_27) ?_)
          refine TL.cons rfl (T1.storeN rfl rfl sz_27 (ones rfl) (by repeat (first | exact Sub.one | apply Sub.there | apply Sub.far)) (by rfl) (by rfl) ?_)
          refine TL.cons rfl (V1.t (V1.assign' (by (conv => lhs; whnf) <;> rfl)) ?_)
          refine TL.nil ?_
          refine T.ret ?_
          have hn2 : n = rd32 ((c1 :: tl).drop (1 + 32 * sa + 4 * sb + 64 * sc)) 0 := by rw [rd32_drop]; exact hn
          exact ⟨_, [], _, .cons (.cellN rfl one_27 sz_27 (RdN.whole (by repeat (first | exact Find.here | apply Find.there | apply Find.far))) (by rfl)) (.cons (.tmp (by (conv => lhs; whnf) <;> rfl)) .nil), (by repeat (first | exact Take.nil | apply Take.one (by repeat (first | exact Pick.here | apply Pick.there | apply Pick.far)) | apply Take.seg (by repeat (first | exact PickS.last | exact PickS.one | exact PickS.here | exact PickS.nil | apply PickS.there | apply PickS.far)) | exact Take.last (by repeat (first | exact PickS.last | exact PickS.one | exact PickS.here | exact PickS.nil | apply PickS.there | apply PickS.far)))), decR_err (by rw [decF_data rfl hshp hn2, if_neg (by omega), if_pos (by omega)])⟩
        ·
          refine TL.nil ?_
          refine T.cond_f rfl ?_
          refine T.skip ?_
          refine T.seq ?_
          refine T.seq ?_
          refine T.live (l := [(0, _), (2, _), (4, _), (5, _), (7, _), (8, _)]) (.cons (by (conv => lhs; whnf) <;> rfl) (.cons (by (conv => lhs; whnf) <;> rfl) (.cons (by (conv => lhs; whnf) <;> rfl) (.cons (by (conv => lhs; whnf) <;> rfl) (.cons (by (conv => lhs; whnf) <;> rfl) (.cons (by (conv => lhs; whnf) <;> rfl) .nil)))))) (fun e_ => ?_)
          refine T.region ?_
          refine TL.cons rfl (V1.t (V1.move' (by (conv => lhs; whnf) <;> rfl)) ?_)
          refine TL.cons rfl (V1.t (V1.lenS ty_9 rfl) ?_)
          refine TL.cons rfl (V1.t (V1.move' (by (conv => lhs; whnf) <;> rfl)) ?_)
          refine TL.cons rfl (V1.t (V1.move' (by (conv => lhs; whnf) <;> rfl)) ?_)
          refine TL.cons rfl (V1.t (V1.add (c := (((1 + 32 * sa + 4 * sb + 64 * sc + 4) + n : Nat) : Int)) rfl rfl (by rw [wrap_i64 _ (by omega) (by omega)]; omega)) ?_)
          refine TL.cons rfl (T1.ltI_split rfl rfl (fun h15_5 => ?_) (fun h15_5 => ?_))
          ·
            refine TL.nil ?_
            refine T.cond_t rfl ?_
            refine T.seq ?_
            refine T.region ?_
            refine TL.cons rfl (V1.t (V1.build0 pl_27 zr_27) ?_)
            refine TL.cons rfl (T1.storeN rfl rfl sz_27 (ones rfl) (by repeat (first | exact Sub.one | apply Sub.there | apply Sub.far)) (by rfl) (by rfl) ?_)
            refine TL.cons rfl (V1.t (V1.assign' (by (conv => lhs; whnf) <;> rfl)) ?_)
            refine TL.nil ?_
            refine T.ret ?_
            have hn2 : n = rd32 ((c1 :: tl).drop (1 + 32 * sa + 4 * sb + 64 * sc)) 0 := by rw [rd32_drop]; exact hn
            exact ⟨_, [], _, .cons (.cellN rfl one_27 sz_27 (RdN.whole (by repeat (first | exact Find.here | apply Find.there | apply Find.far))) (by rfl)) (.cons (.tmp (by (conv => lhs; whnf) <;> rfl)) .nil), (by repeat (first | exact Take.nil | apply Take.one (by repeat (first | exact Pick.here | apply Pick.there | apply Pick.far)) | apply Take.seg (by repeat (first | exact PickS.last | exact PickS.one | exact PickS.here | exact PickS.nil | apply PickS.there | apply PickS.far)) | exact Take.last (by repeat (first | exact PickS.last | exact PickS.one | exact PickS.here | exact PickS.nil | apply PickS.there | apply PickS.far)))), decR_err (by rw [decF_data rfl hshp hn2, if_neg (by omega), if_neg (by omega), if_pos (by omega)])⟩
          ·
            refine TL.nil ?_
            refine T.cond_f rfl ?_
            refine T.skip ?_
            refine T.seq ?_
            refine T.seq ?_
            refine T.region ?_
            refine TL.cons rfl (V1.t (V1.move' (by (conv => lhs; whnf) <;> rfl)) ?_)
            refine TL.cons rfl (V1.t (V1.lenS ty_9 rfl) ?_)
            refine TL.cons rfl (V1.t (V1.move' (by (conv => lhs; whnf) <;> rfl)) ?_)
            refine TL.cons rfl (V1.t (V1.move' (by (conv => lhs; whnf) <;> rfl)) ?_)
            refine TL.cons rfl (V1.t (V1.add (c := (((1 + 32 * sa + 4 * sb + 64 * sc + 4) + n : Nat) : Int)) rfl rfl (by rw [wrap_i64 _ (by omega) (by omega)]; omega)) ?_)
            refine TL.cons rfl (T1.gtI_split rfl rfl (fun h17_5 => ?_) (fun h17_5 => ?_))
            ·
              refine TL.nil ?_
              refine T.cond_t rfl ?_
              refine T.seq ?_
              refine T.region ?_
              refine TL.cons rfl (V1.t (V1.build0 pl_27 zr_27) ?_)
              refine TL.cons rfl (T1.storeN rfl rfl sz_27 (ones rfl) (by repeat (first | exact Sub.one | apply Sub.there | apply Sub.far)) (by rfl) (by rfl) ?_)
              refine TL.cons rfl (V1.t (V1.assign' (by (conv => lhs; whnf) <;> rfl)) ?_)
              refine TL.nil ?_
              refine T.ret ?_
              have hn2 : n = rd32 ((c1 :: tl).drop (1 + 32 * sa + 4 * sb + 64 * sc)) 0 := by rw [rd32_drop]; exact hn
              exact ⟨_, [], _, .cons (.cellN rfl one_27 sz_27 (RdN.whole (by repeat (first | exact Find.here | apply Find.there | apply Find.far))) (by rfl)) (.cons (.tmp (by (conv => lhs; whnf) <;> rfl)) .nil), (by repeat (first | exact Take.nil | apply Take.one (by repeat (first | exact Pick.here | apply Pick.there | apply Pick.far)) | apply Take.seg (by repeat (first | exact PickS.last | exact PickS.one | exact PickS.here | exact PickS.nil | apply PickS.there | apply PickS.far)) | exact Take.last (by repeat (first | exact PickS.last | exact PickS.one | exact PickS.here | exact PickS.nil | apply PickS.there | apply PickS.far)))), decR_err (by rw [decF_data rfl hshp hn2, if_neg (by omega), if_neg (by omega), if_neg (by omega), if_pos (by omega)])⟩
            ·
              refine TL.nil ?_
              refine T.cond_f rfl ?_
              refine T.skip ?_
              refine T.seq ?_
              refine T.region ?_
              refine TL.cons rfl (V1.t (V1.assign' (by (conv => lhs; whnf) <;> rfl)) ?_)
              refine TL.nil ?_
              refine T.seq ?_
              refine T.seq ?_
              refine T.region ?_
              refine TL.cons rfl (V1.t (V1.assign' (by (conv => lhs; whnf) <;> rfl)) ?_)
              refine TL.nil ?_
              refine T.block ?_
              refine T.loopL (σ := Nat × Value × List Blk) (l0 := [(0, _), (2, _), (4, _), (5, _), (7, _)]) (fun x => [(9, .int .i64 ((1 + 32 * x.1 : Nat) : Int)), (10, .int .i64 (x.1 : Nat))]) (fun x L => L = ⟨b4, 0, [.int .i64 (c1.toNat : Nat), x.2.1, .slice none 0 0, .slice none 0 0, .slice none 0 0], 5⟩ :: ⟨b5, 0, [.int .i64 sa, .int .i64 sb, .int .i64 sc, .int .i64 1], 4⟩ :: ⟨b2, 0, [.int .i64 0, .slice none 0 0, .slice none 0 0, .slice none 0 0, .slice none 0 0], 5⟩ :: x.2.2 ∧ x.1 ≤ sa ∧ Sl x.2.1 ((chunks 32 x.1 ((c1 :: tl).drop (1))).flatten.map byteV) 32 x.2.2) (fun x => sa - x.1) (0, .slice none 0 0, []) (.cons rfl (.cons rfl .nil)) (.cons (by (conv => lhs; whnf) <;> rfl) (.cons (by (conv => lhs; whnf) <;> rfl) (.cons (by (conv => lhs; whnf) <;> rfl) (.cons (by (conv => lhs; whnf) <;> rfl) (.cons (by (conv => lhs; whnf) <;> rfl) .nil))))) (by repeat (first | exact Take.nil | apply Take.one (by repeat (first | exact Pick.here | apply Pick.there | apply Pick.far)) | apply Take.seg (by repeat (first | exact PickS.last | exact PickS.one | exact PickS.here | exact PickS.nil | apply PickS.there | apply PickS.far)) | exact Take.last (by repeat (first | exact PickS.last | exact PickS.one | exact PickS.here | exact PickS.nil | apply PickS.there | apply PickS.far)))) (⟨rfl, Nat.zero_le _, Sl.nil⟩) ?_
              rintro ⟨i, sk, Lk⟩ e_ L ⟨rfl, hi0, hs0⟩
              dsimp only at hi0 hs0
              dsimp only
              refine T.seq ?_
              refine T.seq ?_
              refine T.region ?_
              refine TL.cons rfl (V1.t (V1.move' (by (conv => lhs; whnf) <;> rfl)) ?_)
              refine TL.cons rfl (V1.t (V1.indexAddrA ty_39 sz_3 rfl rfl (by decide) (by decide)) ?_)
              refine TL.cons rfl (V1.t (V1.load1 one_3 rfl (.own (by repeat (first | exact Find.here | apply Find.there | apply Find.far)) (by rfl))) ?_)
              refine TL.cons rfl (T1.ltI_split rfl rfl (fun h21_3 => ?_) (fun h21_3 => ?_))
              ·
                refine TL.nil ?_
                refine T.cond_t rfl ?_
                refine T.skip ?_
                refine T.seq ?_
                refine T.block ?_
                refine T.seq ?_
                refine T.region ?_
                refine TL.cons rfl (V1.t (V1.buildA0 ty_54 sz_5 zr_54) ?_)
                refine TL.cons rfl (T1.allocN 32 zr_54 rfl (fun b11 => ?_))
                refine TL.cons rfl (T1.storeN rfl rfl sz_54 (ones rfl) (by repeat (first | exact Sub.one | apply Sub.there | apply Sub.far)) (by rfl) (by rfl) ?_)
                refine TL.nil ?_
                refine T.seq ?_
                refine T.seq ?_
                refine T.region ?_
                refine TL.cons rfl (V1.t (V1.assign' (by (conv => lhs; whnf) <;> rfl)) ?_)
                refine TL.nil ?_
                refine T.block ?_
                refine T.loopL (σ := Nat) (l0 := [(0, _), (2, _), (4, _), (5, _), (7, _), (9, _), (10, _), (11, _)]) (fun x => [(12, .int .i64 (x : Nat))]) (fun x L => L = ⟨b11, 0, (part 32 ((c1 :: tl).drop (1 + 32 * i)) x).map byteV, 32⟩ :: ⟨b4, 0, [.int .i64 (c1.toNat : Nat), sk, .slice none 0 0, .slice none 0 0, .slice none 0 0], 5⟩ :: ⟨b5, 0, [.int .i64 sa, .int .i64 sb, .int .i64 sc, .int .i64 1], 4⟩ :: ⟨b2, 0, [.int .i64 0, .slice none 0 0, .slice none 0 0, .slice none 0 0, .slice none 0 0], 5⟩ :: Lk ∧ x ≤ 32) (fun x => 32 - x) 0 (.cons rfl .nil) (.cons (by (conv => lhs; whnf) <;> rfl) (.cons (by (conv => lhs; whnf) <;> rfl) (.cons (by (conv => lhs; whnf) <;> rfl) (.cons (by (conv => lhs; whnf) <;> rfl) (.cons (by (conv => lhs; whnf) <;> rfl) (.cons (by (conv => lhs; whnf) <;> rfl) (.cons (by (conv => lhs; whnf) <;> rfl) (.cons (by (conv => lhs; whnf) <;> rfl) .nil)))))))) (by repeat (first | exact Take.nil | apply Take.one (by repeat (first | exact Pick.here | apply Pick.there | apply Pick.far)) | apply Take.seg (by repeat (first | exact PickS.last | exact PickS.one | exact PickS.here | exact PickS.nil | apply PickS.there | apply PickS.far)) | exact Take.last (by repeat (first | exact PickS.last | exact PickS.one | exact PickS.here | exact PickS.nil | apply PickS.there | apply PickS.far)))) (⟨rfl, Nat.zero_le _⟩) ?_
                rintro q e_ L ⟨rfl, hq⟩
                refine T.seq ?_
                refine T.seq ?_
                refine T.region ?_
                refine TL.cons rfl (V1.t (V1.move' (by (conv => lhs; whnf) <;> rfl)) ?_)
                refine TL.cons rfl (T1.ltI_split rfl rfl (fun h25_1 => ?_) (fun h25_1 => ?_))
                ·
                  obtain ⟨c, hx⟩ : ∃ c, (c1 :: tl)[(1 + 32 * i) + q]? = some c := ⟨_, List.getElem?_eq_getElem (by omega)⟩
                  have hx2 : ((c1 :: tl).drop (1 + 32 * i))[q]? = some c := by rw [List.getElem?_drop]; exact hx
                  have hkl : 32 ≤ ((c1 :: tl).drop (1 + 32 * i)).length := by rw [List.length_drop]; omega
                  have hset := part_step (by omega) hkl hx2
                  refine TL.nil ?_
                  refine T.cond_t rfl ?_
                  refine T.skip ?_
                  refine T.seq ?_
                  refine T.block ?_
                  refine T.region ?_
                  refine TL.cons rfl (V1.t (V1.move' (by (conv => lhs; whnf) <;> rfl)) ?_)
                  refine TL.cons rfl (V1.t (V1.move' (by (conv => lhs; whnf) <;> rfl)) ?_)
                  refine TL.cons rfl (V1.t (V1.move' (by (conv => lhs; whnf) <;> rfl)) ?_)
                  refine TL.cons rfl (V1.t (V1.move' (by (conv => lhs; whnf) <;> rfl)) ?_)
                  refine TL.cons rfl (V1.t (V1.add (c := (((1 + 32 * i) + q : Nat) : Int)) rfl rfl (by rw [show (((1 + 32 * i) : Nat) : Int) + (q : Nat) = (((1 + 32 * i) + q : Nat) : Int) from by omega]; exact wrap_i64 _ (by omega) (by omega))) ?_)
                  refine TL.cons rfl (V1.t (V1.indexStr (c := c) ty_9 rfl rfl (by omega) (bstr_get hx)) ?_)
                  refine TL.cons rfl (V1.t (V1.indexAddrA ty_54 sz_5 rfl rfl (by omega) (by omega)) ?_)
                  refine TL.cons rfl (T1.storeE (o := 0 + q * 1) (cells := (part 32 ((c1 :: tl).drop (1 + 32 * i)) q).map byteV) (cells' := (part 32 ((c1 :: tl).drop (1 + 32 * i)) (q + 1)).map byteV) rfl rfl sz_5 rfl (by rw [show 0 + q * 1 - 0 = q from by omega]; exact hset) (by repeat (first | exact Sub.one | apply Sub.there | apply Sub.far)) (Nat.zero_le _) (by have := part_len (j := q) (by omega) hkl; rw [List.length_map]; omega) ?_)
                  refine TL.nil ?_
                  refine T.region ?_
                  refine TL.cons rfl (V1.t (V1.move' (by (conv => lhs; whnf) <;> rfl)) ?_)
                  refine TL.cons rfl (V1.t (V1.add rfl rfl (wrap_i64 _ (by omega) (by omega))) ?_)
                  refine TL.cons rfl (V1.t (V1.assign' (by (conv => lhs; whnf) <;> rfl)) ?_)
                  refine TL.nil ?_
                  exact ⟨q + 1, _, _, (by simp only; omega), (.cons rfl .nil), (.cons rfl (.cons rfl (.cons rfl (.cons rfl (.cons rfl (.cons rfl (.cons rfl (.cons rfl .nil)))))))), (by repeat (first | exact Take.nil | apply Take.one (by repeat (first | exact Pick.here | apply Pick.there | apply Pick.far)) | apply Take.seg (by repeat (first | exact PickS.last | exact PickS.one | exact PickS.here | exact PickS.nil | apply PickS.there | apply PickS.far)) | exact Take.last (by repeat (first | exact PickS.last | exact PickS.one | exact PickS.here | exact PickS.nil | apply PickS.there | apply PickS.far)))), ⟨rfl, by omega⟩⟩
                ·
                  obtain rfl : q = 32 := by omega
                  have hkl : 32 ≤ ((c1 :: tl).drop (1 + 32 * i)).length := by rw [List.length_drop]; omega
                  have hpl := part_len (j := 32) (Nat.le_refl _) hkl
                  refine TL.nil ?_
                  refine T.cond_f rfl ?_
                  refine T.exit ?_
                  refine T.seq ?_
                  refine T.region ?_
                  refine TL.cons rfl (V1.t (V1.fieldAddr fl_27_1 rfl) ?_)
                  refine TL.cons rfl (V1.t (V1.load1 one_22 rfl (.own (by repeat (first | exact Find.here | apply Find.there | apply Find.far)) (by rfl))) ?_)
                  refine TL.cons rfl (V1.t (V1.loadN one_54 sz_54 rfl (RdN.whole (by repeat (first | exact Find.here | apply Find.there | apply Find.far))) (by rw [List.length_map]; exact hpl)) ?_)
                  refine TL.cons rfl (T1.buildSlN (os := [.tmp 98]) ty_22 sz_54 zr_54 (by decide) rfl (.cons (by (conv => lhs; whnf) <;> rfl) .nil) (by repeat (first | exact Aggs.nil | apply Aggs.cons rfl)) (by rfl) (by intro y hy; simp only [List.mem_singleton] at hy; subst hy; rw [List.length_map]; exact hpl) (fun bb => ?_))
                  refine TL.cons rfl (T1.append ty_22 kd_22 sz_54 by_54 zr_54 rfl (by decide) (by decide) rfl rfl hs0 (.sl (n := 1) (RdN.whole (by repeat (first | exact Find.here | apply Find.there | apply Find.far))) (by simp only [List.flatten_cons, List.flatten_nil, List.append_nil, List.length_map]; omega)) (by intro u hu; simp only [List.flatten_cons, List.flatten_nil, List.append_nil] at hu; exact one_bytes _ u hu) 100 (by have := chunks_flat_le 32 i ((c1 :: tl).drop (1)); simp only [List.length_map, List.flatten_cons, List.flatten_nil, List.append_nil, hpl]; omega) (by omega) (by repeat (first | exact PickS.last | exact PickS.one | exact PickS.here | exact PickS.nil | apply PickS.there | apply PickS.far)) (fun s' Ls' hsl' => ?_))
                  rw [part_all] at hsl'
                  refine TL.cons rfl (V1.t (V1.fieldAddr fl_27_1 rfl) ?_)
                  refine TL.cons rfl (T1.store1 rfl rfl sz_22 hsl'.one (by repeat (first | exact Sub.one | apply Sub.there | apply Sub.far)) (Nat.zero_le _) (by repeat (first | exact SetAt.here | apply SetAt.there)) ?_)
                  refine TL.nil ?_
                  refine T.region ?_
                  refine TL.cons rfl (V1.t (V1.move' (by (conv => lhs; whnf) <;> rfl)) ?_)
                  refine TL.cons rfl (V1.t (V1.add (c := ((1 + 32 * (i + 1) : Nat) : Int)) rfl rfl (by rw [show (((1 + 32 * i) : Nat) : Int) + 32 = ((1 + 32 * (i + 1) : Nat) : Int) from by omega]; exact wrap_i64 _ (by omega) (by omega))) ?_)
                  refine TL.cons rfl (V1.t (V1.assign' (by (conv => lhs; whnf) <;> rfl)) ?_)
                  refine TL.nil ?_
                  refine T.region ?_
                  refine TL.cons rfl (V1.t (V1.move' (by (conv => lhs; whnf) <;> rfl)) ?_)
                  refine TL.cons rfl (V1.t (V1.add rfl rfl (wrap_i64 _ (by omega) (by omega))) ?_)
                  refine TL.cons rfl (V1.t (V1.assign' (by (conv => lhs; whnf) <;> rfl)) ?_)
                  refine TL.nil ?_
                  exact ⟨(i + 1, s', Ls'), _, _, (by dsimp only; omega), (.cons rfl (.cons rfl .nil)), (.cons rfl (.cons rfl (.cons rfl (.cons rfl (.cons rfl .nil))))), (by repeat (first | exact Take.nil | apply Take.one (by repeat (first | exact Pick.here | apply Pick.there | apply Pick.far)) | apply Take.seg (by repeat (first | exact PickS.last | exact PickS.one | exact PickS.here | exact PickS.nil | apply PickS.there | apply PickS.far)) | exact Take.last (by repeat (first | exact PickS.last | exact PickS.one | exact PickS.here | exact PickS.nil | apply PickS.there | apply PickS.far)))), ⟨rfl, by dsimp only; omega, by (show Sl s' _ _ _); rw [chunks_succ, List.drop_drop]; simpa using hsl'⟩⟩
              ·
                refine TL.nil ?_
                refine T.cond_f rfl ?_
                refine T.exit ?_
                refine T.seq ?_
                refine T.seq ?_
                refine T.region ?_
                refine TL.cons rfl (V1.t (V1.assign' (by (conv => lhs; whnf) <;> rfl)) ?_)
                refine TL.nil ?_
                refine T.block ?_
                obtain rfl : sa = i := by omega
                refine T.loopL (σ := Nat × Value × List Blk) (l0 := [(0, _), (2, _), (4, _), (5, _), (7, _)]) (fun x => [(9, .int .i64 ((1 + 32 * sa + 4 * x.1 : Nat) : Int)), (13, .int .i64 (x.1 : Nat))]) (fun x L => L = ⟨b4, 0, [.int .i64 (c1.toNat : Nat), sk, x.2.1, .slice none 0 0, .slice none 0 0], 5⟩ :: ⟨b5, 0, [.int .i64 sa, .int .i64 sb, .int .i64 sc, .int .i64 1], 4⟩ :: ⟨b2, 0, [.int .i64 0, .slice none 0 0, .slice none 0 0, .slice none 0 0, .slice none 0 0], 5⟩ :: (x.2.2 ++ Lk) ∧ x.1 ≤ sb ∧ Sl x.2.1 ((nums32 x.1 ((c1 :: tl).drop (1 + 32 * sa))).map u32V) 1 x.2.2) (fun x => sb - x.1) (0, .slice none 0 0, []) (.cons rfl (.cons rfl .nil)) (.cons (by (conv => lhs; whnf) <;> rfl) (.cons (by (conv => lhs; whnf) <;> rfl) (.cons (by (conv => lhs; whnf) <;> rfl) (.cons (by (conv => lhs; whnf) <;> rfl) (.cons (by (conv => lhs; whnf) <;> rfl) .nil))))) (by repeat (first | exact Take.nil | apply Take.one (by repeat (first | exact Pick.here | apply Pick.there | apply Pick.far)) | apply Take.seg (by repeat (first | exact PickS.last | exact PickS.one | exact PickS.here | exact PickS.nil | apply PickS.there | apply PickS.far)) | exact Take.last (by repeat (first | exact PickS.last | exact PickS.one | exact PickS.here | exact PickS.nil | apply PickS.there | apply PickS.far)))) (⟨rfl, Nat.zero_le _, Sl.nil⟩) ?_
                rintro ⟨j, sn, Ln⟩ e_ L ⟨rfl, hi1, hs1⟩
                dsimp only at hi1 hs1
                dsimp only
                refine T.seq ?_
                refine T.seq ?_
                refine T.region ?_
                refine TL.cons rfl (V1.t (V1.move' (by (conv => lhs; whnf) <;> rfl)) ?_)
                refine TL.cons rfl (V1.t (V1.indexAddrA ty_39 sz_3 rfl rfl (by decide) (by decide)) ?_)
                refine TL.cons rfl (V1.t (V1.load1 one_3 rfl (.own (by repeat (first | exact Find.here | apply Find.there | apply Find.far)) (by rfl))) ?_)
                refine TL.cons rfl (T1.ltI_split rfl rfl (fun h31_3 => ?_) (fun h31_3 => ?_))
                ·
                  refine TL.nil ?_
                  refine T.cond_t rfl ?_
                  refine T.skip ?_
                  refine T.seq ?_
                  refine T.block ?_
                  refine T.seq ?_
                  refine T.drawU mixed ?_
                  refine TU.take 0 rfl (by decide +kernel) (by decide +kernel) (by decide +kernel) rfl (fun _ _ _ h => h) (fun _ => V1.fieldAddr fl_27_2 rfl) ?_
                  refine TU.take 2 rfl (by decide +kernel) (by decide +kernel) (by decide +kernel) rfl (fun _ _ _ h => h) (fun _ => V1.move' (by (conv => lhs; whnf) <;> rfl)) ?_
                  refine TU.take 3 rfl (by decide +kernel) (by decide +kernel) (by decide +kernel) rfl (fun _ _ _ h => h) (fun _ => V1.move' (by (conv => lhs; whnf) <;> rfl)) ?_
                  refine TU.two 1 4 (by decide +kernel) rfl rfl rfl rfl (V1.t (V1.load1 one_23 rfl (.own (by repeat (first | exact Find.here | apply Find.there | apply Find.far)) (by rfl))) ?_) (T1.call0 («as» := [.string (bstr (c1 :: tl)), .int .i64 ((1 + 32 * sa + 4 * j) : Nat)]) has_23 rfl (fun w hs => refread_any (c1 :: tl) (1 + 32 * sa + 4 * j) w (by omega) (by omega)) (fun v hv => ?_))
                  ·
                    refine TU.one 4 (by decide +kernel) rfl rfl (T1.call0 («as» := [.string (bstr (c1 :: tl)), .int .i64 ((1 + 32 * sa + 4 * j) : Nat)]) has_23 rfl (fun w hs => refread_any (c1 :: tl) (1 + 32 * sa + 4 * j) w (by omega) (by omega)) (fun v hv => ?_))
                    obtain ⟨nn, hnn⟩ : ∃ n, n = rd32 (c1 :: tl) (1 + 32 * sa + 4 * j) := ⟨_, rfl⟩
                    have hnnl := rd32_lt (c1 :: tl) (1 + 32 * sa + 4 * j)
                    rw [← hnn] at hv hnnl
                    subst hv
                    refine TU.take 5 rfl (by decide +kernel) (by decide +kernel) (by decide +kernel) rfl (fun _ _ _ h => h) (fun _ => V1.conv ty_3 ty_55 rfl (wrap_u32 _ (by omega) (by omega))) ?_
                    refine TU.one 6 (by decide +kernel) rfl rfl (T1.buildSl1 (os := [.tmp 115]) ty_23 sz_55 zr_55 (by decide) rfl (.cons (by (conv => lhs; whnf) <;> rfl) .nil) rfl (ones rfl) (fun b116 => ?_))
                    refine TU.one 7 (by decide +kernel) rfl rfl (T1.append ty_23 kd_23 sz_55 by_55 zr_55 rfl (by decide) (by decide) rfl rfl hs1 (.sl (n := 1) (RdN.whole (by repeat (first | exact Find.here | apply Find.there | apply Find.far))) (by rfl)) (ones rfl) 100 (by simp only [List.length_map, nums32, List.length_range, List.length_cons, List.length_nil]; omega) (by omega) (by repeat (first | exact PickS.last | exact PickS.one | exact PickS.here | exact PickS.nil | apply PickS.there | apply PickS.far)) (fun s' Ls' hsl' => ?_))
                    rw [hnn, ← rd32_drop] at hsl'
                    refine TU.take 8 rfl (by decide +kernel) (by decide +kernel) (by decide +kernel) rfl (fun _ _ _ h => h) (fun _ => V1.fieldAddr fl_27_2 rfl) ?_
                    refine TU.one 9 (by decide +kernel) rfl rfl (T1.store1 rfl rfl sz_23 hsl'.one (by repeat (first | exact Sub.one | apply Sub.there | apply Sub.far)) (Nat.zero_le _) (by repeat (first | exact SetAt.here | apply SetAt.there)) ?_)
                    refine TU.done (by decide +kernel) ?_
                    refine T.region ?_
                    refine TL.cons rfl (V1.t (V1.move' (by (conv => lhs; whnf) <;> rfl)) ?_)
                    refine TL.cons rfl (V1.t (V1.add (c := ((1 + 32 * sa + 4 * (j + 1) : Nat) : Int)) rfl rfl (by rw [show (((1 + 32 * sa + 4 * j) : Nat) : Int) + 4 = ((1 + 32 * sa + 4 * (j + 1) : Nat) : Int) from by omega]; exact wrap_i64 _ (by omega) (by omega))) ?_)
                    refine TL.cons rfl (V1.t (V1.assign' (by (conv => lhs; whnf) <;> rfl)) ?_)
                    refine TL.nil ?_
                    refine T.live (l := [(0, _), (2, _), (4, _), (5, _), (7, _), (9, _), (13, _)]) (.cons (by (conv => lhs; whnf) <;> rfl) (.cons (by (conv => lhs; whnf) <;> rfl) (.cons (by (conv => lhs; whnf) <;> rfl) (.cons (by (conv => lhs; whnf) <;> rfl) (.cons (by (conv => lhs; whnf) <;> rfl) (.cons (by (conv => lhs; whnf) <;> rfl) (.cons (by (conv => lhs; whnf) <;> rfl) .nil))))))) (fun e_ => ?_)
                    refine T.region ?_
                    refine TL.cons rfl (V1.t (V1.move' (by (conv => lhs; whnf) <;> rfl)) ?_)
                    refine TL.cons rfl (V1.t (V1.add rfl rfl (wrap_i64 _ (by omega) (by omega))) ?_)
                    refine TL.cons rfl (V1.t (V1.assign' (by (conv => lhs; whnf) <;> rfl)) ?_)
                    refine TL.nil ?_
                    exact ⟨(j + 1, s', Ls'), _, _, (by dsimp only; omega), (.cons rfl (.cons rfl .nil)), (.cons rfl (.cons rfl (.cons rfl (.cons rfl (.cons rfl .nil))))), (by repeat (first | exact Take.nil | apply Take.one (by repeat (first | exact Pick.here | apply Pick.there | apply Pick.far)) | apply Take.seg (by repeat (first | exact PickS.last | exact PickS.one | exact PickS.here | exact PickS.nil | apply PickS.there | apply PickS.far)) | exact Take.last (by repeat (first | exact PickS.last | exact PickS.one | exact PickS.here | exact PickS.nil | apply PickS.there | apply PickS.far)))), ⟨rfl, by dsimp only; omega, by (show Sl s' _ _ _); rw [nums32_succ, List.drop_drop]; simpa [u32V] using hsl'⟩⟩
                  ·
                    obtain ⟨nn, hnn⟩ : ∃ n, n = rd32 (c1 :: tl) (1 + 32 * sa + 4 * j) := ⟨_, rfl⟩
                    have hnnl := rd32_lt (c1 :: tl) (1 + 32 * sa + 4 * j)
                    rw [← hnn] at hv hnnl
                    subst hv
                    refine TU.take 5 rfl (by decide +kernel) (by decide +kernel) (by decide +kernel) rfl (fun _ _ _ h => h) (fun _ => V1.conv ty_3 ty_55 rfl (wrap_u32 _ (by omega) (by omega))) ?_
                    refine TU.two 1 6 (by decide +kernel) rfl rfl rfl rfl (V1.t (V1.load1 one_23 rfl (.own (by repeat (first | exact Find.here | apply Find.there | apply Find.far)) (by rfl))) ?_) (T1.buildSl1 (os := [.tmp 115]) ty_23 sz_55 zr_55 (by decide) rfl (.cons (by (conv => lhs; whnf) <;> rfl) .nil) rfl (ones rfl) (fun b116 => ?_))
                    ·
                      refine TU.one 6 (by decide +kernel) rfl rfl (T1.buildSl1 (os := [.tmp 115]) ty_23 sz_55 zr_55 (by decide) rfl (.cons (by (conv => lhs; whnf) <;> rfl) .nil) rfl (ones rfl) (fun b116 => ?_))
                      refine TU.one 7 (by decide +kernel) rfl rfl (T1.append ty_23 kd_23 sz_55 by_55 zr_55 rfl (by decide) (by decide) rfl rfl hs1 (.sl (n := 1) (RdN.whole (by repeat (first | exact Find.here | apply Find.there | apply Find.far))) (by rfl)) (ones rfl) 100 (by simp only [List.length_map, nums32, List.length_range, List.length_cons, List.length_nil]; omega) (by omega) (by repeat (first | exact PickS.last | exact PickS.one | exact PickS.here | exact PickS.nil | apply PickS.there | apply PickS.far)) (fun s' Ls' hsl' => ?_))
                      rw [hnn, ← rd32_drop] at hsl'
                      refine TU.take 8 rfl (by decide +kernel) (by decide +kernel) (by decide +kernel) rfl (fun _ _ _ h => h) (fun _ => V1.fieldAddr fl_27_2 rfl) ?_
                      refine TU.one 9 (by decide +kernel) rfl rfl (T1.store1 rfl rfl sz_23 hsl'.one (by repeat (first | exact Sub.one | apply Sub.there | apply Sub.far)) (Nat.zero_le _) (by repeat (first | exact SetAt.here | apply SetAt.there)) ?_)
                      refine TU.done (by decide +kernel) ?_
                      refine T.region ?_
                      refine TL.cons rfl (V1.t (V1.move' (by (conv => lhs; whnf) <;> rfl)) ?_)
                      refine TL.cons rfl (V1.t (V1.add (c := ((1 + 32 * sa + 4 * (j + 1) : Nat) : Int)) rfl rfl (by rw [show (((1 + 32 * sa + 4 * j) : Nat) : Int) + 4 = ((1 + 32 * sa + 4 * (j + 1) : Nat) : Int) from by omega]; exact wrap_i64 _ (by omega) (by omega))) ?_)
                      refine TL.cons rfl (V1.t (V1.assign' (by (conv => lhs; whnf) <;> rfl)) ?_)
                      refine TL.nil ?_
                      refine T.live (l := [(0, _), (2, _), (4, _), (5, _), (7, _), (9, _), (13, _)]) (.cons (by (conv => lhs; whnf) <;> rfl) (.cons (by (conv => lhs; whnf) <;> rfl) (.cons (by (conv => lhs; whnf) <;> rfl) (.cons (by (conv => lhs; whnf) <;> rfl) (.cons (by (conv => lhs; whnf) <;> rfl) (.cons (by (conv => lhs; whnf) <;> rfl) (.cons (by (conv => lhs; whnf) <;> rfl) .nil))))))) (fun e_ => ?_)
                      refine T.region ?_
                      refine TL.cons rfl (V1.t (V1.move' (by (conv => lhs; whnf) <;> rfl)) ?_)
                      refine TL.cons rfl (V1.t (V1.add rfl rfl (wrap_i64 _ (by omega) (by omega))) ?_)
                      refine TL.cons rfl (V1.t (V1.assign' (by (conv => lhs; whnf) <;> rfl)) ?_)
                      refine TL.nil ?_
                      exact ⟨(j + 1, s', Ls'), _, _, (by dsimp only; omega), (.cons rfl (.cons rfl .nil)), (.cons rfl (.cons rfl (.cons rfl (.cons rfl (.cons rfl .nil))))), (by repeat (first | exact Take.nil | apply Take.one (by repeat (first | exact Pick.here | apply Pick.there | apply Pick.far)) | apply Take.seg (by repeat (first | exact PickS.last | exact PickS.one | exact PickS.here | exact PickS.nil | apply PickS.there | apply PickS.far)) | exact Take.last (by repeat (first | exact PickS.last | exact PickS.one | exact PickS.here | exact PickS.nil | apply PickS.there | apply PickS.far)))), ⟨rfl, by dsimp only; omega, by (show Sl s' _ _ _); rw [nums32_succ, List.drop_drop]; simpa [u32V] using hsl'⟩⟩
                    ·
                      refine TU.one 1 (by decide +kernel) rfl rfl (V1.t (V1.load1 one_23 rfl (.own (by repeat (first | exact Find.here | apply Find.there | apply Find.far)) (by rfl))) ?_)
                      refine TU.one 7 (by decide +kernel) rfl rfl (T1.append ty_23 kd_23 sz_55 by_55 zr_55 rfl (by decide) (by decide) rfl rfl hs1 (.sl (n := 1) (RdN.whole (by repeat (first | exact Find.here | apply Find.there | apply Find.far))) (by rfl)) (ones rfl) 100 (by simp only [List.length_map, nums32, List.length_range, List.length_cons, List.length_nil]; omega) (by omega) (by repeat (first | exact PickS.last | exact PickS.one | exact PickS.here | exact PickS.nil | apply PickS.there | apply PickS.far)) (fun s' Ls' hsl' => ?_))
                      rw [hnn, ← rd32_drop] at hsl'
                      refine TU.take 8 rfl (by decide +kernel) (by decide +kernel) (by decide +kernel) rfl (fun _ _ _ h => h) (fun _ => V1.fieldAddr fl_27_2 rfl) ?_
                      refine TU.one 9 (by decide +kernel) rfl rfl (T1.store1 rfl rfl sz_23 hsl'.one (by repeat (first | exact Sub.one | apply Sub.there | apply Sub.far)) (Nat.zero_le _) (by repeat (first | exact SetAt.here | apply SetAt.there)) ?_)
                      refine TU.done (by decide +kernel) ?_
                      refine T.region ?_
                      refine TL.cons rfl (V1.t (V1.move' (by (conv => lhs; whnf) <;> rfl)) ?_)
                      refine TL.cons rfl (V1.t (V1.add (c := ((1 + 32 * sa + 4 * (j + 1) : Nat) : Int)) rfl rfl (by rw [show (((1 + 32 * sa + 4 * j) : Nat) : Int) + 4 = ((1 + 32 * sa + 4 * (j + 1) : Nat) : Int) from by omega]; exact wrap_i64 _ (by omega) (by omega))) ?_)
                      refine TL.cons rfl (V1.t (V1.assign' (by (conv => lhs; whnf) <;> rfl)) ?_)
                      refine TL.nil ?_
                      refine T.live (l := [(0, _), (2, _), (4, _), (5, _), (7, _), (9, _), (13, _)]) (.cons (by (conv => lhs; whnf) <;> rfl) (.cons (by (conv => lhs; whnf) <;> rfl) (.cons (by (conv => lhs; whnf) <;> rfl) (.cons (by (conv => lhs; whnf) <;> rfl) (.cons (by (conv => lhs; whnf) <;> rfl) (.cons (by (conv => lhs; whnf) <;> rfl) (.cons (by (conv => lhs; whnf) <;> rfl) .nil))))))) (fun e_ => ?_)
                      refine T.region ?_
                      refine TL.cons rfl (V1.t (V1.move' (by (conv => lhs; whnf) <;> rfl)) ?_)
                      refine TL.cons rfl (V1.t (V1.add rfl rfl (wrap_i64 _ (by omega) (by omega))) ?_)
                      refine TL.cons rfl (V1.t (V1.assign' (by (conv => lhs; whnf) <;> rfl)) ?_)
                      refine TL.nil ?_
                      exact ⟨(j + 1, s', Ls'), _, _, (by dsimp only; omega), (.cons rfl (.cons rfl .nil)), (.cons rfl (.cons rfl (.cons rfl (.cons rfl (.cons rfl .nil))))), (by repeat (first | exact Take.nil | apply Take.one (by repeat (first | exact Pick.here | apply Pick.there | apply Pick.far)) | apply Take.seg (by repeat (first | exact PickS.last | exact PickS.one | exact PickS.here | exact PickS.nil | apply PickS.there | apply PickS.far)) | exact Take.last (by repeat (first | exact PickS.last | exact PickS.one | exact PickS.here | exact PickS.nil | apply PickS.there | apply PickS.far)))), ⟨rfl, by dsimp only; omega, by (show Sl s' _ _ _); rw [nums32_succ, List.drop_drop]; simpa [u32V] using hsl'⟩⟩
                ·
                  refine TL.nil ?_
                  refine T.cond_f rfl ?_
                  refine T.exit ?_
                  refine T.seq ?_
                  refine T.seq ?_
                  refine T.region ?_
                  refine TL.cons rfl (V1.t (V1.assign' (by (conv => lhs; whnf) <;> rfl)) ?_)
                  refine TL.nil ?_
                  refine T.block ?_
                  obtain rfl : sb = j := by omega
                  refine T.loopL (σ := Nat × Value × List Blk) (l0 := [(0, _), (2, _), (4, _), (5, _), (7, _)]) (fun x => [(9, .int .i64 ((1 + 32 * sa + 4 * sb + 64 * x.1 : Nat) : Int)), (14, .int .i64 (x.1 : Nat))]) (fun x L => L = ⟨b4, 0, [.int .i64 (c1.toNat : Nat), sk, sn, x.2.1, .slice none 0 0], 5⟩ :: ⟨b5, 0, [.int .i64 sa, .int .i64 sb, .int .i64 sc, .int .i64 1], 4⟩ :: ⟨b2, 0, [.int .i64 0, .slice none 0 0, .slice none 0 0, .slice none 0 0, .slice none 0 0], 5⟩ :: (x.2.2 ++ (Ln ++ Lk)) ∧ x.1 ≤ sc ∧ Sl x.2.1 ((chunks 64 x.1 ((c1 :: tl).drop (1 + 32 * sa + 4 * sb))).flatten.map byteV) 64 x.2.2) (fun x => sc - x.1) (0, .slice none 0 0, []) (.cons rfl (.cons rfl .nil)) (.cons (by (conv => lhs; whnf) <;> rfl) (.cons (by (conv => lhs; whnf) <;> rfl) (.cons (by (conv => lhs; whnf) <;> rfl) (.cons (by (conv => lhs; whnf) <;> rfl) (.cons (by (conv => lhs; whnf) <;> rfl) .nil))))) (by repeat (first | exact Take.nil | apply Take.one (by repeat (first | exact Pick.here | apply Pick.there | apply Pick.far)) | apply Take.seg (by repeat (first | exact PickS.last | exact PickS.one | exact PickS.here | exact PickS.nil | apply PickS.there | apply PickS.far)) | exact Take.last (by repeat (first | exact PickS.last | exact PickS.one | exact PickS.here | exact PickS.nil | apply PickS.there | apply PickS.far)))) (⟨rfl, Nat.zero_le _, Sl.nil⟩) ?_
                  rintro ⟨m, sx, Lx⟩ e_ L ⟨rfl, hi2, hs2⟩
                  dsimp only at hi2 hs2
                  dsimp only
                  refine T.seq ?_
                  refine T.seq ?_
                  refine T.region ?_
                  refine TL.cons rfl (V1.t (V1.move' (by (conv => lhs; whnf) <;> rfl)) ?_)
                  refine TL.cons rfl (V1.t (V1.indexAddrA ty_39 sz_3 rfl rfl (by decide) (by decide)) ?_)
                  refine TL.cons rfl (V1.t (V1.load1 one_3 rfl (.own (by repeat (first | exact Find.here | apply Find.there | apply Find.far)) (by rfl))) ?_)
                  refine TL.cons rfl (T1.ltI_split rfl rfl (fun h36_3 => ?_) (fun h36_3 => ?_))
                  ·
                    refine TL.nil ?_
                    refine T.cond_t rfl ?_
                    refine T.skip ?_
                    refine T.seq ?_
                    refine T.block ?_
                    refine T.seq ?_
                    refine T.region ?_
                    refine TL.cons rfl (V1.t (V1.buildA0 ty_60 sz_5 zr_60) ?_)
                    refine TL.cons rfl (T1.allocN 64 zr_60 rfl (fun b15 => ?_))
                    refine TL.cons rfl (T1.storeN rfl rfl sz_60 (ones rfl) (by repeat (first | exact Sub.one | apply Sub.there | apply Sub.far)) (by rfl) (by rfl) ?_)
                    refine TL.nil ?_
                    refine T.seq ?_
                    refine T.seq ?_
                    refine T.region ?_
                    refine TL.cons rfl (V1.t (V1.assign' (by (conv => lhs; whnf) <;> rfl)) ?_)
                    refine TL.nil ?_
                    refine T.block ?_
                    refine T.loopL (σ := Nat) (l0 := [(0, _), (2, _), (4, _), (5, _), (7, _), (9, _), (14, _), (15, _)]) (fun x => [(16, .int .i64 (x : Nat))]) (fun x L => L = ⟨b15, 0, (part 64 ((c1 :: tl).drop (1 + 32 * sa + 4 * sb + 64 * m)) x).map byteV, 64⟩ :: ⟨b4, 0, [.int .i64 (c1.toNat : Nat), sk, sn, sx, .slice none 0 0], 5⟩ :: ⟨b5, 0, [.int .i64 sa, .int .i64 sb, .int .i64 sc, .int .i64 1], 4⟩ :: ⟨b2, 0, [.int .i64 0, .slice none 0 0, .slice none 0 0, .slice none 0 0, .slice none 0 0], 5⟩ :: (Lx ++ (Ln ++ Lk)) ∧ x ≤ 64) (fun x => 64 - x) 0 (.cons rfl .nil) (.cons (by (conv => lhs; whnf) <;> rfl) (.cons (by (conv => lhs; whnf) <;> rfl) (.cons (by (conv => lhs; whnf) <;> rfl) (.cons (by (conv => lhs; whnf) <;> rfl) (.cons (by (conv => lhs; whnf) <;> rfl) (.cons (by (conv => lhs; whnf) <;> rfl) (.cons (by (conv => lhs; whnf) <;> rfl) (.cons (by (conv => lhs; whnf) <;> rfl) .nil)))))))) (by repeat (first | exact Take.nil | apply Take.one (by repeat (first | exact Pick.here | apply Pick.there | apply Pick.far)) | apply Take.seg (by repeat (first | exact PickS.last | exact PickS.one | exact PickS.here | exact PickS.nil | apply PickS.there | apply PickS.far)) | exact Take.last (by repeat (first | exact PickS.last | exact PickS.one | exact PickS.here | exact PickS.nil | apply PickS.there | apply PickS.far)))) (⟨rfl, Nat.zero_le _⟩) ?_
                    rintro q e_ L ⟨rfl, hq⟩
                    refine T.seq ?_
                    refine T.seq ?_
                    refine T.region ?_
                    refine TL.cons rfl (V1.t (V1.move' (by (conv => lhs; whnf) <;> rfl)) ?_)
                    refine TL.cons rfl (T1.ltI_split rfl rfl (fun h40_1 => ?_) (fun h40_1 => ?_))
                    ·
                      obtain ⟨c, hx⟩ : ∃ c, (c1 :: tl)[(1 + 32 * sa + 4 * sb + 64 * m) + q]? = some c := ⟨_, List.getElem?_eq_getElem (by omega)⟩
                      have hx2 : ((c1 :: tl).drop (1 + 32 * sa + 4 * sb + 64 * m))[q]? = some c := by rw [List.getElem?_drop]; exact hx
                      have hkl : 64 ≤ ((c1 :: tl).drop (1 + 32 * sa + 4 * sb + 64 * m)).length := by rw [List.length_drop]; omega
                      have hset := part_step (by omega) hkl hx2
                      refine TL.nil ?_
                      refine T.cond_t rfl ?_
                      refine T.skip ?_
                      refine T.seq ?_
                      refine T.block ?_
                      refine T.region ?_
                      refine TL.cons rfl (V1.t (V1.move' (by (conv => lhs; whnf) <;> rfl)) ?_)
                      refine TL.cons rfl (V1.t (V1.move' (by (conv => lhs; whnf) <;> rfl)) ?_)
                      refine TL.cons rfl (V1.t (V1.move' (by (conv => lhs; whnf) <;> rfl)) ?_)
                      refine TL.cons rfl (V1.t (V1.move' (by (conv => lhs; whnf) <;> rfl)) ?_)
                      refine TL.cons rfl (V1.t (V1.add (c := (((1 + 32 * sa + 4 * sb + 64 * m) + q : Nat) : Int)) rfl rfl (by rw [show (((1 + 32 * sa + 4 * sb + 64 * m) : Nat) : Int) + (q : Nat) = (((1 + 32 * sa + 4 * sb + 64 * m) + q : Nat) : Int) from by omega]; exact wrap_i64 _ (by omega) (by omega))) ?_)
                      refine TL.cons rfl (V1.t (V1.indexStr (c := c) ty_9 rfl rfl (by omega) (bstr_get hx)) ?_)
                      refine TL.cons rfl (V1.t (V1.indexAddrA ty_60 sz_5 rfl rfl (by omega) (by omega)) ?_)
                      refine TL.cons rfl (T1.storeE (o := 0 + q * 1) (cells := (part 64 ((c1 :: tl).drop (1 + 32 * sa + 4 * sb + 64 * m)) q).map byteV) (cells' := (part 64 ((c1 :: tl).drop (1 + 32 * sa + 4 * sb + 64 * m)) (q + 1)).map byteV) rfl rfl sz_5 rfl (by rw [show 0 + q * 1 - 0 = q from by omega]; exact hset) (by repeat (first | exact Sub.one | apply Sub.there | apply Sub.far)) (Nat.zero_le _) (by have := part_len (j := q) (by omega) hkl; rw [List.length_map]; omega) ?_)
                      refine TL.nil ?_
                      refine T.region ?_
                      refine TL.cons rfl (V1.t (V1.move' (by (conv => lhs; whnf) <;> rfl)) ?_)
                      refine TL.cons rfl (V1.t (V1.add rfl rfl (wrap_i64 _ (by omega) (by omega))) ?_)
                      refine TL.cons rfl (V1.t (V1.assign' (by (conv => lhs; whnf) <;> rfl)) ?_)
                      refine TL.nil ?_
                      exact ⟨q + 1, _, _, (by simp only; omega), (.cons rfl .nil), (.cons rfl (.cons rfl (.cons rfl (.cons rfl (.cons rfl (.cons rfl (.cons rfl (.cons rfl .nil)))))))), (by repeat (first | exact Take.nil | apply Take.one (by repeat (first | exact Pick.here | apply Pick.there | apply Pick.far)) | apply Take.seg (by repeat (first | exact PickS.last | exact PickS.one | exact PickS.here | exact PickS.nil | apply PickS.there | apply PickS.far)) | exact Take.last (by repeat (first | exact PickS.last | exact PickS.one | exact PickS.here | exact PickS.nil | apply PickS.there | apply PickS.far)))), ⟨rfl, by omega⟩⟩
                    ·
                      obtain rfl : q = 64 := by omega
                      have hkl : 64 ≤ ((c1 :: tl).drop (1 + 32 * sa + 4 * sb + 64 * m)).length := by rw [List.length_drop]; omega
                      have hpl := part_len (j := 64) (Nat.le_refl _) hkl
                      refine TL.nil ?_
                      refine T.cond_f rfl ?_
                      refine T.exit ?_
                      refine T.seq ?_
                      refine T.region ?_
                      refine TL.cons rfl (V1.t (V1.fieldAddr fl_27_3 rfl) ?_)
                      refine TL.cons rfl (V1.t (V1.load1 one_24 rfl (.own (by repeat (first | exact Find.here | apply Find.there | apply Find.far)) (by rfl))) ?_)
                      refine TL.cons rfl (V1.t (V1.loadN one_60 sz_60 rfl (RdN.whole (by repeat (first | exact Find.here | apply Find.there | apply Find.far))) (by rw [List.length_map]; exact hpl)) ?_)
                      refine TL.cons rfl (T1.buildSlN (os := [.tmp 141]) ty_24 sz_60 zr_60 (by decide) rfl (.cons (by (conv => lhs; whnf) <;> rfl) .nil) (by repeat (first | exact Aggs.nil | apply Aggs.cons rfl)) (by rfl) (by intro y hy; simp only [List.mem_singleton] at hy; subst hy; rw [List.length_map]; exact hpl) (fun bb => ?_))
                      refine TL.cons rfl (T1.append ty_24 kd_24 sz_60 by_60 zr_60 rfl (by decide) (by decide) rfl rfl hs2 (.sl (n := 1) (RdN.whole (by repeat (first | exact Find.here | apply Find.there | apply Find.far))) (by simp only [List.flatten_cons, List.flatten_nil, List.append_nil, List.length_map]; omega)) (by intro u hu; simp only [List.flatten_cons, List.flatten_nil, List.append_nil] at hu; exact one_bytes _ u hu) 100 (by have := chunks_flat_le 64 m ((c1 :: tl).drop (1 + 32 * sa + 4 * sb)); simp only [List.length_map, List.flatten_cons, List.flatten_nil, List.append_nil, hpl]; omega) (by omega) (by repeat (first | exact PickS.last | exact PickS.one | exact PickS.here | exact PickS.nil | apply PickS.there | apply PickS.far)) (fun s' Ls' hsl' => ?_))
                      rw [part_all] at hsl'
                      refine TL.cons rfl (V1.t (V1.fieldAddr fl_27_3 rfl) ?_)
                      refine TL.cons rfl (T1.store1 rfl rfl sz_24 hsl'.one (by repeat (first | exact Sub.one | apply Sub.there | apply Sub.far)) (Nat.zero_le _) (by repeat (first | exact SetAt.here | apply SetAt.there)) ?_)
                      refine TL.nil ?_
                      refine T.region ?_
                      refine TL.cons rfl (V1.t (V1.move' (by (conv => lhs; whnf) <;> rfl)) ?_)
                      refine TL.cons rfl (V1.t (V1.add (c := ((1 + 32 * sa + 4 * sb + 64 * (m + 1) : Nat) : Int)) rfl rfl (by rw [show (((1 + 32 * sa + 4 * sb + 64 * m) : Nat) : Int) + 64 = ((1 + 32 * sa + 4 * sb + 64 * (m + 1) : Nat) : Int) from by omega]; exact wrap_i64 _ (by omega) (by omega))) ?_)
                      refine TL.cons rfl (V1.t (V1.assign' (by (conv => lhs; whnf) <;> rfl)) ?_)
                      refine TL.nil ?_
                      refine T.region ?_
                      refine TL.cons rfl (V1.t (V1.move' (by (conv => lhs; whnf) <;> rfl)) ?_)
                      refine TL.cons rfl (V1.t (V1.add rfl rfl (wrap_i64 _ (by omega) (by omega))) ?_)
                      refine TL.cons rfl (V1.t (V1.assign' (by (conv => lhs; whnf) <;> rfl)) ?_)
                      refine TL.nil ?_
                      exact ⟨(m + 1, s', Ls'), _, _, (by dsimp only; omega), (.cons rfl (.cons rfl .nil)), (.cons rfl (.cons rfl (.cons rfl (.cons rfl (.cons rfl .nil))))), (by repeat (first | exact Take.nil | apply Take.one (by repeat (first | exact Pick.here | apply Pick.there | apply Pick.far)) | apply Take.seg (by repeat (first | exact PickS.last | exact PickS.one | exact PickS.here | exact PickS.nil | apply PickS.there | apply PickS.far)) | exact Take.last (by repeat (first | exact PickS.last | exact PickS.one | exact PickS.here | exact PickS.nil | apply PickS.there | apply PickS.far)))), ⟨rfl, by dsimp only; omega, by (show Sl s' _ _ _); rw [chunks_succ, List.drop_drop]; simpa using hsl'⟩⟩
                  ·
                    refine TL.nil ?_
                    refine T.cond_f rfl ?_
                    refine T.exit ?_
                    refine T.seq ?_
                    refine T.seq ?_
                    refine T.region ?_
                    refine TL.cons rfl (V1.t (V1.indexAddrA ty_39 sz_3 rfl rfl (by decide) (by decide)) ?_)
                    refine TL.cons rfl (V1.t (V1.load1 one_3 rfl (.own (by repeat (first | exact Find.here | apply Find.there | apply Find.far)) (by rfl))) ?_)
                    refine TL.cons rfl (V1.t (V1.eqI rfl rfl (decide_eq_true (by omega))) ?_)
                    refine TL.nil ?_
                    refine T.cond_t rfl ?_
                    refine T.region ?_
                    refine TL.cons rfl (V1.t (V1.move' (by (conv => lhs; whnf) <;> rfl)) ?_)
                    refine TL.cons rfl (V1.t (V1.move' (by (conv => lhs; whnf) <;> rfl)) ?_)
                    refine TL.cons rfl (V1.t (V1.sliceB (1 + 32 * sa + 4 * sb + 64 * sc + 4) (c1 :: tl).length ty_9 rfl rfl rfl (by omega) (Nat.le_refl _)) ?_)
                    refine TL.cons rfl (T1.strToBytes ty_9 ty_25 ty_5 rfl (fun bd cap hcap => ?_))
                    refine TL.cons rfl (V1.t (V1.fieldAddr fl_27_4 rfl) ?_)
                    refine TL.cons rfl (T1.store1 rfl rfl sz_25 rfl (by repeat (first | exact Sub.one | apply Sub.there | apply Sub.far)) (Nat.zero_le _) (by repeat (first | exact SetAt.here | apply SetAt.there)) ?_)
                    refine TL.nil ?_
                    refine T.seq ?_
                    refine T.region ?_
                    refine TL.cons rfl (V1.t (V1.loadN one_27 sz_27 rfl (RdN.whole (by repeat (first | exact Find.here | apply Find.there | apply Find.far))) (by rfl)) ?_)
                    refine TL.cons rfl (T1.storeN rfl rfl sz_27 (by intro u hu; simp only [List.mem_cons, List.not_mem_nil, or_false] at hu; rcases hu with rfl | rfl | rfl | rfl | rfl; rfl; exact hs0.one; exact hs1.one; exact hs2.one; exact rfl) (by repeat (first | exact Sub.one | apply Sub.there | apply Sub.far)) (by rfl) (by rfl) ?_)
                    refine TL.cons rfl (V1.t (V1.assign' (by (conv => lhs; whnf) <;> rfl)) ?_)
                    refine TL.nil ?_
                    refine T.ret ?_
                    have hn2 : n = rd32 ((c1 :: tl).drop (1 + 32 * sa + 4 * sb + 64 * sc)) 0 := by rw [rd32_drop]; exact hn
                    obtain rfl : sc = m := by omega
                    have hdd : (bstr (List.take ((c1 :: tl).length - (1 + 32 * sa + 4 * sb + 64 * sc + 4)) (List.drop (1 + 32 * sa + 4 * sb + 64 * sc + 4) (c1 :: tl)))).data.toList = List.drop (1 + 32 * sa + 4 * sb + 64 * sc + 4) (c1 :: tl) := List.take_of_length_le (by rw [List.length_drop]; omega)
                    exact ⟨_, Lk ++ (Ln ++ (Lx ++ [_])), _, .cons (.cellN rfl one_27 sz_27 (RdN.whole (by repeat (first | exact Find.here | apply Find.there | apply Find.far))) (by rfl)) (.cons (.tmp (by (conv => lhs; whnf) <;> rfl)) .nil), (by repeat (first | exact Take.nil | apply Take.one (by repeat (first | exact Pick.here | apply Pick.there | apply Pick.far)) | apply Take.seg (by repeat (first | exact PickS.last | exact PickS.one | exact PickS.here | exact PickS.nil | apply PickS.there | apply PickS.far)) | exact Take.last (by repeat (first | exact PickS.last | exact PickS.one | exact PickS.here | exact PickS.nil | apply PickS.there | apply PickS.far)))), decR_ok (by rw [decF_data rfl hshp hn2, if_neg (by omega), if_neg (by omega), if_neg (by omega), if_neg (by omega), hdd]) hs0 hs1 hs2 (Sl.mk (by simp [bstr_size]) hcap (by omega))⟩
    ·
      refine TL.cons rfl (V1.t (V1.move' (by (conv => lhs; whnf) <;> rfl)) ?_)
      refine TL.cons rfl (V1.t (V1.extract rfl (by rfl)) ?_)
      refine TL.cons rfl (V1.t (V1.extract rfl (by rfl)) ?_)
      refine TL.cons rfl (T1.allocN 4 zr_39 rfl (fun b5 => ?_))
      refine TL.cons rfl (T1.storeN rfl rfl sz_39 (ones rfl) (by repeat (first | exact Sub.one | apply Sub.there | apply Sub.far)) (by rfl) (by rfl) ?_)
      refine TL.cons rfl (V1.t (V1.assign' (by (conv => lhs; whnf) <;> rfl)) ?_)
      refine TL.nil ?_
      refine T.seq ?_
      refine T.seq ?_
      refine T.live (l := [(0, _), (2, _), (4, _), (5, _), (6, _)]) (.cons (by (conv => lhs; whnf) <;> rfl) (.cons (by (conv => lhs; whnf) <;> rfl) (.cons (by (conv => lhs; whnf) <;> rfl) (.cons (by (conv => lhs; whnf) <;> rfl) (.cons (by (conv => lhs; whnf) <;> rfl) .nil))))) (fun e_ => ?_)
      refine T.region ?_
      refine TL.cons rfl (V1.t (V1.move' (by (conv => lhs; whnf) <;> rfl)) ?_)
      refine TL.cons rfl (V1.t (V1.not rfl rfl) ?_)
      refine TL.nil ?_
      refine T.cond_f rfl ?_
      refine T.skip ?_
      refine T.seq ?_
      refine T.region ?_
      refine TL.cons rfl (V1.t (V1.indexAddrA ty_39 sz_3 rfl rfl (by decide) (by decide)) ?_)
      refine TL.cons rfl (V1.t (V1.load1 one_3 rfl (.own (by repeat (first | exact Find.here | apply Find.there | apply Find.far)) (by rfl))) ?_)
      refine TL.cons rfl (V1.t (V1.mul rfl rfl (wrap_i64 _ (by omega) (by omega))) ?_)
      refine TL.cons rfl (V1.t (V1.add rfl rfl (wrap_i64 _ (by omega) (by omega))) ?_)
      refine TL.cons rfl (V1.t (V1.indexAddrA ty_39 sz_3 rfl rfl (by decide) (by decide)) ?_)
      refine TL.cons rfl (V1.t (V1.load1 one_3 rfl (.own (by repeat (first | exact Find.here | apply Find.there | apply Find.far)) (by rfl))) ?_)
      refine TL.cons rfl (V1.t (V1.mul rfl rfl (wrap_i64 _ (by omega) (by omega))) ?_)
      refine TL.cons rfl (V1.t (V1.add rfl rfl (wrap_i64 _ (by omega) (by omega))) ?_)
      refine TL.cons rfl (V1.t (V1.indexAddrA ty_39 sz_3 rfl rfl (by decide) (by decide)) ?_)
      refine TL.cons rfl (V1.t (V1.load1 one_3 rfl (.own (by repeat (first | exact Find.here | apply Find.there | apply Find.far)) (by rfl))) ?_)
      refine TL.cons rfl (V1.t (V1.mul rfl rfl (wrap_i64 _ (by omega) (by omega))) ?_)
      refine TL.cons rfl (V1.t (V1.add rfl rfl (wrap_i64 _ (by omega) (by omega))) ?_)
      refine TL.cons rfl (V1.t (V1.indexAddrA ty_39 sz_3 rfl rfl (by decide) (by decide)) ?_)
      refine TL.cons rfl (V1.t (V1.load1 one_3 rfl (.own (by repeat (first | exact Find.here | apply Find.there | apply Find.far)) (by rfl))) ?_)
      refine TL.cons rfl (V1.t (V1.mul rfl rfl (wrap_i64 _ (by omega) (by omega))) ?_)
      refine TL.cons rfl (V1.t (V1.add (c := (((1 + 32 * sa + 4 * sb + 64 * sc) : Nat) : Int)) rfl rfl (by rw [wrap_i64 _ (by omega) (by omega)]; omega)) ?_)
      refine TL.cons rfl (V1.t (V1.assign' (by (conv => lhs; whnf) <;> rfl)) ?_)
      refine TL.nil ?_
      refine T.seq ?_
      refine T.seq ?_
      refine T.live (l := [(0, _), (2, _), (4, _), (5, _), (7, _)]) (.cons (by (conv => lhs; whnf) <;> rfl) (.cons (by (conv => lhs; whnf) <;> rfl) (.cons (by (conv => lhs; whnf) <;> rfl) (.cons (by (conv => lhs; whnf) <;> rfl) (.cons (by (conv => lhs; whnf) <;> rfl) .nil))))) (fun e_ => ?_)
      refine T.region ?_
      refine TL.cons rfl (V1.t (V1.move' (by (conv => lhs; whnf) <;> rfl)) ?_)
      refine TL.cons rfl (V1.t (V1.lenS ty_9 rfl) ?_)
      refine TL.cons rfl (V1.t (V1.move' (by (conv => lhs; whnf) <;> rfl)) ?_)
      refine TL.cons rfl (T1.ltI_split rfl rfl (fun h8_3 => ?_) (fun h8_3 => ?_))
      ·
        refine TL.nil ?_
        refine T.cond_t rfl ?_
        refine T.seq ?_
        refine T.region ?_
        refine TL.cons rfl (V1.t (V1.build0 pl_27 zr_27) ?_)
        refine TL.cons rfl (T1.storeN rfl rfl sz_27 (ones rfl) (by repeat (first | exact Sub.one | apply Sub.there | apply Sub.far)) (by rfl) (by rfl) ?_)
        refine TL.cons rfl (V1.t (V1.assign' (by (conv => lhs; whnf) <;> rfl)) ?_)
        refine TL.nil ?_
        refine T.ret ?_
        exact ⟨_, [], _, .cons (.cellN rfl one_27 sz_27 (RdN.whole (by repeat (first | exact Find.here | apply Find.there | apply Find.far))) (by rfl)) (.cons (.tmp (by (conv => lhs; whnf) <;> rfl)) .nil), (by repeat (first | exact Take.nil | apply Take.one (by repeat (first | exact Pick.here | apply Pick.there | apply Pick.far)) | apply Take.seg (by repeat (first | exact PickS.last | exact PickS.one | exact PickS.here | exact PickS.nil | apply PickS.there | apply PickS.far)) | exact Take.last (by repeat (first | exact PickS.last | exact PickS.one | exact PickS.here | exact PickS.nil | apply PickS.there | apply PickS.far)))), decR_err (by rw [decF_bare rfl hshp, if_pos (by omega)])⟩
      ·
        refine TL.nil ?_
        refine T.cond_f rfl ?_
        refine T.skip ?_
        refine T.seq ?_
        refine T.region ?_
        refine TL.cons rfl (V1.t (V1.assign' (by (conv => lhs; whnf) <;> rfl)) ?_)
        refine TL.nil ?_
        refine T.seq ?_
        refine T.seq ?_
        refine T.region ?_
        refine TL.cons rfl (V1.t (V1.indexAddrA ty_39 sz_3 rfl rfl (by decide) (by decide)) ?_)
        refine TL.cons rfl (V1.t (V1.load1 one_3 rfl (.own (by repeat (first | exact Find.here | apply Find.there | apply Find.far)) (by rfl))) ?_)
        refine TL.cons rfl (V1.t (V1.eqI rfl rfl (decide_eq_false (by omega))) ?_)
        refine TL.nil ?_
        refine T.cond_f rfl ?_
        refine T.skip ?_
        refine T.seq ?_
        refine T.seq ?_
        refine T.region ?_
        refine TL.cons rfl (V1.t (V1.move' (by (conv => lhs; whnf) <;> rfl)) ?_)
        refine TL.cons rfl (T1.gtI_split rfl rfl (fun h13_1 => ?_) (fun h13_1 => ?_))
        ·
          refine TL.nil ?_
          refine T.cond_t rfl ?_
          refine T.seq ?_
          refine T.region ?_
          refine TL.cons rfl (V1.t (V1.build0 pl_27 zr_27) ?_)
          refine TL.cons rfl (T1.storeN rfl rfl sz_27 (ones rfl) (by repeat (first | exact Sub.one | apply Sub.there | apply Sub.far)) (by rfl) (by rfl) ?_)
          refine TL.cons rfl (V1.t (V1.assign' (by (conv => lhs; whnf) <;> rfl)) ?_)
          refine TL.nil ?_
          refine T.ret ?_
          omega
        ·
          refine TL.nil ?_
          refine T.cond_f rfl ?_
          refine T.skip ?_
          refine T.seq ?_
          refine T.seq ?_
          refine T.region ?_
          refine TL.cons rfl (V1.t (V1.move' (by (conv => lhs; whnf) <;> rfl)) ?_)
          refine TL.cons rfl (V1.t (V1.lenS ty_9 rfl) ?_)
          refine TL.cons rfl (V1.t (V1.move' (by (conv => lhs; whnf) <;> rfl)) ?_)
          refine TL.cons rfl (V1.t (V1.move' (by (conv => lhs; whnf) <;> rfl)) ?_)
          refine TL.cons rfl (V1.t (V1.add (c := (((1 + 32 * sa + 4 * sb + 64 * sc) + 0 : Nat) : Int)) rfl rfl (by rw [wrap_i64 _ (by omega) (by omega)]; omega)) ?_)
          refine TL.cons rfl (T1.ltI_split rfl rfl (fun h15_5 => ?_) (fun h15_5 => ?_))
          ·
            refine TL.nil ?_
            refine T.cond_t rfl ?_
            refine T.seq ?_
            refine T.live (l := [(2, _)]) (.cons (by (conv => lhs; whnf) <;> rfl) .nil) (fun e_ => ?_)
            refine T.region ?_
            refine TL.cons rfl (V1.t (V1.build0 pl_27 zr_27) ?_)
            refine TL.cons rfl (T1.storeN rfl rfl sz_27 (ones rfl) (by repeat (first | exact Sub.one | apply Sub.there | apply Sub.far)) (by rfl) (by rfl) ?_)
            refine TL.cons rfl (V1.t (V1.assign' (by (conv => lhs; whnf) <;> rfl)) ?_)
            refine TL.nil ?_
            refine T.ret ?_
            omega
          ·
            refine TL.nil ?_
            refine T.cond_f rfl ?_
            refine T.skip ?_
            refine T.seq ?_
            refine T.seq ?_
            refine T.live (l := [(0, _), (2, _), (4, _), (5, _), (7, _), (8, _)]) (.cons (by (conv => lhs; whnf) <;> rfl) (.cons (by (conv => lhs; whnf) <;> rfl) (.cons (by (conv => lhs; whnf) <;> rfl) (.cons (by (conv => lhs; whnf) <;> rfl) (.cons (by (conv => lhs; whnf) <;> rfl) (.cons (by (conv => lhs; whnf) <;> rfl) .nil)))))) (fun e_ => ?_)
            refine T.region ?_
            refine TL.cons rfl (V1.t (V1.move' (by (conv => lhs; whnf) <;> rfl)) ?_)
            refine TL.cons rfl (V1.t (V1.lenS ty_9 rfl) ?_)
            refine TL.cons rfl (V1.t (V1.move' (by (conv => lhs; whnf) <;> rfl)) ?_)
            refine TL.cons rfl (V1.t (V1.move' (by (conv => lhs; whnf) <;> rfl)) ?_)
            refine TL.cons rfl (V1.t (V1.add (c := (((1 + 32 * sa + 4 * sb + 64 * sc) + 0 : Nat) : Int)) rfl rfl (by rw [wrap_i64 _ (by omega) (by omega)]; omega)) ?_)
            refine TL.cons rfl (T1.gtI_split rfl rfl (fun h17_5 => ?_) (fun h17_5 => ?_))
            ·
              refine TL.nil ?_
              refine T.cond_t rfl ?_
              refine T.seq ?_
              refine T.region ?_
              refine TL.cons rfl (V1.t (V1.build0 pl_27 zr_27) ?_)
              refine TL.cons rfl (T1.storeN rfl rfl sz_27 (ones rfl) (by repeat (first | exact Sub.one | apply Sub.there | apply Sub.far)) (by rfl) (by rfl) ?_)
              refine TL.cons rfl (V1.t (V1.assign' (by (conv => lhs; whnf) <;> rfl)) ?_)
              refine TL.nil ?_
              refine T.ret ?_
              exact ⟨_, [], _, .cons (.cellN rfl one_27 sz_27 (RdN.whole (by repeat (first | exact Find.here | apply Find.there | apply Find.far))) (by rfl)) (.cons (.tmp (by (conv => lhs; whnf) <;> rfl)) .nil), (by repeat (first | exact Take.nil | apply Take.one (by repeat (first | exact Pick.here | apply Pick.there | apply Pick.far)) | apply Take.seg (by repeat (first | exact PickS.last | exact PickS.one | exact PickS.here | exact PickS.nil | apply PickS.there | apply PickS.far)) | exact Take.last (by repeat (first | exact PickS.last | exact PickS.one | exact PickS.here | exact PickS.nil | apply PickS.there | apply PickS.far)))), decR_err (by rw [decF_bare rfl hshp, if_neg (by omega), if_pos (by omega)])⟩
            ·
              refine TL.nil ?_
              refine T.cond_f rfl ?_
              refine T.skip ?_
              refine T.seq ?_
              refine T.region ?_
              refine TL.cons rfl (V1.t (V1.assign' (by (conv => lhs; whnf) <;> rfl)) ?_)
              refine TL.nil ?_
              refine T.seq ?_
              refine T.seq ?_
              refine T.region ?_
              refine TL.cons rfl (V1.t (V1.assign' (by (conv => lhs; whnf) <;> rfl)) ?_)
              refine TL.nil ?_
              refine T.block ?_
              refine T.loopL (σ := Nat × Value × List Blk) (l0 := [(0, _), (2, _), (4, _), (5, _), (7, _)]) (fun x => [(9, .int .i64 ((1 + 32 * x.1 : Nat) : Int)), (10, .int .i64 (x.1 : Nat))]) (fun x L => L = ⟨b4, 0, [.int .i64 (c1.toNat : Nat), x.2.1, .slice none 0 0, .slice none 0 0, .slice none 0 0], 5⟩ :: ⟨b5, 0, [.int .i64 sa, .int .i64 sb, .int .i64 sc, .int .i64 0], 4⟩ :: ⟨b2, 0, [.int .i64 0, .slice none 0 0, .slice none 0 0, .slice none 0 0, .slice none 0 0], 5⟩ :: x.2.2 ∧ x.1 ≤ sa ∧ Sl x.2.1 ((chunks 32 x.1 ((c1 :: tl).drop (1))).flatten.map byteV) 32 x.2.2) (fun x => sa - x.1) (0, .slice none 0 0, []) (.cons rfl (.cons rfl .nil)) (.cons (by (conv => lhs; whnf) <;> rfl) (.cons (by (conv => lhs; whnf) <;> rfl) (.cons (by (conv => lhs; whnf) <;> rfl) (.cons (by (conv => lhs; whnf) <;> rfl) (.cons (by (conv => lhs; whnf) <;> rfl) .nil))))) (by repeat (first | exact Take.nil | apply Take.one (by repeat (first | exact Pick.here | apply Pick.there | apply Pick.far)) | apply Take.seg (by repeat (first | exact PickS.last | exact PickS.one | exact PickS.here | exact PickS.nil | apply PickS.there | apply PickS.far)) | exact Take.last (by repeat (first | exact PickS.last | exact PickS.one | exact PickS.here | exact PickS.nil | apply PickS.there | apply PickS.far)))) (⟨rfl, Nat.zero_le _, Sl.nil⟩) ?_
              rintro ⟨i, sk, Lk⟩ e_ L ⟨rfl, hi0, hs0⟩
              dsimp only at hi0 hs0
              dsimp only
              refine T.seq ?_
              refine T.seq ?_
              refine T.region ?_
              refine TL.cons rfl (V1.t (V1.move' (by (conv => lhs; whnf) <;> rfl)) ?_)
              refine TL.cons rfl (V1.t (V1.indexAddrA ty_39 sz_3 rfl rfl (by decide) (by decide)) ?_)
              refine TL.cons rfl (V1.t (V1.load1 one_3 rfl (.own (by repeat (first | exact Find.here | apply Find.there | apply Find.far)) (by rfl))) ?_)
              refine TL.cons rfl (T1.ltI_split rfl rfl (fun h21_3 => ?_) (fun h21_3 => ?_))
              ·
                refine TL.nil ?_
                refine T.cond_t rfl ?_
                refine T.skip ?_
                refine T.seq ?_
                refine T.block ?_
                refine T.seq ?_
                refine T.region ?_
                refine TL.cons rfl (V1.t (V1.buildA0 ty_54 sz_5 zr_54) ?_)
                refine TL.cons rfl (T1.allocN 32 zr_54 rfl (fun b11 => ?_))
                refine TL.cons rfl (T1.storeN rfl rfl sz_54 (ones rfl) (by repeat (first | exact Sub.one | apply Sub.there | apply Sub.far)) (by rfl) (by rfl) ?_)
                refine TL.nil ?_
                refine T.seq ?_
                refine T.seq ?_
                refine T.region ?_
                refine TL.cons rfl (V1.t (V1.assign' (by (conv => lhs; whnf) <;> rfl)) ?_)
                refine TL.nil ?_
                refine T.block ?_
                refine T.loopL (σ := Nat) (l0 := [(0, _), (2, _), (4, _), (5, _), (7, _), (9, _), (10, _), (11, _)]) (fun x => [(12, .int .i64 (x : Nat))]) (fun x L => L = ⟨b11, 0, (part 32 ((c1 :: tl).drop (1 + 32 * i)) x).map byteV, 32⟩ :: ⟨b4, 0, [.int .i64 (c1.toNat : Nat), sk, .slice none 0 0, .slice none 0 0, .slice none 0 0], 5⟩ :: ⟨b5, 0, [.int .i64 sa, .int .i64 sb, .int .i64 sc, .int .i64 0], 4⟩ :: ⟨b2, 0, [.int .i64 0, .slice none 0 0, .slice none 0 0, .slice none 0 0, .slice none 0 0], 5⟩ :: Lk ∧ x ≤ 32) (fun x => 32 - x) 0 (.cons rfl .nil) (.cons (by (conv => lhs; whnf) <;> rfl) (.cons (by (conv => lhs; whnf) <;> rfl) (.cons (by (conv => lhs; whnf) <;> rfl) (.cons (by (conv => lhs; whnf) <;> rfl) (.cons (by (conv => lhs; whnf) <;> rfl) (.cons (by (conv => lhs; whnf) <;> rfl) (.cons (by (conv => lhs; whnf) <;> rfl) (.cons (by (conv => lhs; whnf) <;> rfl) .nil)))))))) (by repeat (first | exact Take.nil | apply Take.one (by repeat (first | exact Pick.here | apply Pick.there | apply Pick.far)) | apply Take.seg (by repeat (first | exact PickS.last | exact PickS.one | exact PickS.here | exact PickS.nil | apply PickS.there | apply PickS.far)) | exact Take.last (by repeat (first | exact PickS.last | exact PickS.one | exact PickS.here | exact PickS.nil | apply PickS.there | apply PickS.far)))) (⟨rfl, Nat.zero_le _⟩) ?_
                rintro q e_ L ⟨rfl, hq⟩
                refine T.seq ?_
                refine T.seq ?_
                refine T.region ?_
                refine TL.cons rfl (V1.t (V1.move' (by (conv => lhs; whnf) <;> rfl)) ?_)
                refine TL.cons rfl (T1.ltI_split rfl rfl (fun h25_1 => ?_) (fun h25_1 => ?_))
                ·
                  obtain ⟨c, hx⟩ : ∃ c, (c1 :: tl)[(1 + 32 * i) + q]? = some c := ⟨_, List.getElem?_eq_getElem (by omega)⟩
                  have hx2 : ((c1 :: tl).drop (1 + 32 * i))[q]? = some c := by rw [List.getElem?_drop]; exact hx
                  have hkl : 32 ≤ ((c1 :: tl).drop (1 + 32 * i)).length := by rw [List.length_drop]; omega
                  have hset := part_step (by omega) hkl hx2
                  refine TL.nil ?_
                  refine T.cond_t rfl ?_
                  refine T.skip ?_
                  refine T.seq ?_
                  refine T.block ?_
                  refine T.region ?_
                  refine TL.cons rfl (V1.t (V1.move' (by (conv => lhs; whnf) <;> rfl)) ?_)
                  refine TL.cons rfl (V1.t (V1.move' (by (conv => lhs; whnf) <;> rfl)) ?_)
                  refine TL.cons rfl (V1.t (V1.move' (by (conv => lhs; whnf) <;> rfl)) ?_)
                  refine TL.cons rfl (V1.t (V1.move' (by (conv => lhs; whnf) <;> rfl)) ?_)
                  refine TL.cons rfl (V1.t (V1.add (c := (((1 + 32 * i) + q : Nat) : Int)) rfl rfl (by rw [show (((1 + 32 * i) : Nat) : Int) + (q : Nat) = (((1 + 32 * i) + q : Nat) : Int) from by omega]; exact wrap_i64 _ (by omega) (by omega))) ?_)
                  refine TL.cons rfl (V1.t (V1.indexStr (c := c) ty_9 rfl rfl (by omega) (bstr_get hx)) ?_)
                  refine TL.cons rfl (V1.t (V1.indexAddrA ty_54 sz_5 rfl rfl (by omega) (by omega)) ?_)
                  refine TL.cons rfl (T1.storeE (o := 0 + q * 1) (cells := (part 32 ((c1 :: tl).drop (1 + 32 * i)) q).map byteV) (cells' := (part 32 ((c1 :: tl).drop (1 + 32 * i)) (q + 1)).map byteV) rfl rfl sz_5 rfl (by rw [show 0 + q * 1 - 0 = q from by omega]; exact hset) (by repeat (first | exact Sub.one | apply Sub.there | apply Sub.far)) (Nat.zero_le _) (by have := part_len (j := q) (by omega) hkl; rw [List.length_map]; omega) ?_)
                  refine TL.nil ?_
                  refine T.region ?_
                  refine TL.cons rfl (V1.t (V1.move' (by (conv => lhs; whnf) <;> rfl)) ?_)
                  refine TL.cons rfl (V1.t (V1.add rfl rfl (wrap_i64 _ (by omega) (by omega))) ?_)
                  refine TL.cons rfl (V1.t (V1.assign' (by (conv => lhs; whnf) <;> rfl)) ?_)
                  refine TL.nil ?_
                  exact ⟨q + 1, _, _, (by simp only; omega), (.cons rfl .nil), (.cons rfl (.cons rfl (.cons rfl (.cons rfl (.cons rfl (.cons rfl (.cons rfl (.cons rfl .nil)))))))), (by repeat (first | exact Take.nil | apply Take.one (by repeat (first | exact Pick.here | apply Pick.there | apply Pick.far)) | apply Take.seg (by repeat (first | exact PickS.last | exact PickS.one | exact PickS.here | exact PickS.nil | apply PickS.there | apply PickS.far)) | exact Take.last (by repeat (first | exact PickS.last | exact PickS.one | exact PickS.here | exact PickS.nil | apply PickS.there | apply PickS.far)))), ⟨rfl, by omega⟩⟩
                ·
                  obtain rfl : q = 32 := by omega
                  have hkl : 32 ≤ ((c1 :: tl).drop (1 + 32 * i)).length := by rw [List.length_drop]; omega
                  have hpl := part_len (j := 32) (Nat.le_refl _) hkl
                  refine TL.nil ?_
                  refine T.cond_f rfl ?_
                  refine T.exit ?_
                  refine T.seq ?_
                  refine T.region ?_
                  refine TL.cons rfl (V1.t (V1.fieldAddr fl_27_1 rfl) ?_)
                  refine TL.cons rfl (V1.t (V1.load1 one_22 rfl (.own (by repeat (first | exact Find.here | apply Find.there | apply Find.far)) (by rfl))) ?_)
                  refine TL.cons rfl (V1.t (V1.loadN one_54 sz_54 rfl (RdN.whole (by repeat (first | exact Find.here | apply Find.there | apply Find.far))) (by rw [List.length_map]; exact hpl)) ?_)
                  refine TL.cons rfl (T1.buildSlN (os := [.tmp 98]) ty_22 sz_54 zr_54 (by decide) rfl (.cons (by (conv => lhs; whnf) <;> rfl) .nil) (by repeat (first | exact Aggs.nil | apply Aggs.cons rfl)) (by rfl) (by intro y hy; simp only [List.mem_singleton] at hy; subst hy; rw [List.length_map]; exact hpl) (fun bb => ?_))
                  refine TL.cons rfl (T1.append ty_22 kd_22 sz_54 by_54 zr_54 rfl (by decide) (by decide) rfl rfl hs0 (.sl (n := 1) (RdN.whole (by repeat (first | exact Find.here | apply Find.there | apply Find.far))) (by simp only [List.flatten_cons, List.flatten_nil, List.append_nil, List.length_map]; omega)) (by intro u hu; simp only [List.flatten_cons, List.flatten_nil, List.append_nil] at hu; exact one_bytes _ u hu) 100 (by have := chunks_flat_le 32 i ((c1 :: tl).drop (1)); simp only [List.length_map, List.flatten_cons, List.flatten_nil, List.append_nil, hpl]; omega) (by omega) (by repeat (first | exact PickS.last | exact PickS.one | exact PickS.here | exact PickS.nil | apply PickS.there | apply PickS.far)) (fun s' Ls' hsl' => ?_))
                  rw [part_all] at hsl'
                  refine TL.cons rfl (V1.t (V1.fieldAddr fl_27_1 rfl) ?_)
                  refine TL.cons rfl (T1.store1 rfl rfl sz_22 hsl'.one (by repeat (first | exact Sub.one | apply Sub.there | apply Sub.far)) (Nat.zero_le _) (by repeat (first | exact SetAt.here | apply SetAt.there)) ?_)
                  refine TL.nil ?_
                  refine T.region ?_
                  refine TL.cons rfl (V1.t (V1.move' (by (conv => lhs; whnf) <;> rfl)) ?_)
                  refine TL.cons rfl (V1.t (V1.add (c := ((1 + 32 * (i + 1) : Nat) : Int)) rfl rfl (by rw [show (((1 + 32 * i) : Nat) : Int) + 32 = ((1 + 32 * (i + 1) : Nat) : Int) from by omega]; exact wrap_i64 _ (by omega) (by omega))) ?_)
                  refine TL.cons rfl (V1.t (V1.assign' (by (conv => lhs; whnf) <;> rfl)) ?_)
                  refine TL.nil ?_
                  refine T.region ?_
                  refine TL.cons rfl (V1.t (V1.move' (by (conv => lhs; whnf) <;> rfl)) ?_)
                  refine TL.cons rfl (V1.t (V1.add rfl rfl (wrap_i64 _ (by omega) (by omega))) ?_)
                  refine TL.cons rfl (V1.t (V1.assign' (by (conv => lhs; whnf) <;> rfl)) ?_)
                  refine TL.nil ?_
                  exact ⟨(i + 1, s', Ls'), _, _, (by dsimp only; omega), (.cons rfl (.cons rfl .nil)), (.cons rfl (.cons rfl (.cons rfl (.cons rfl (.cons rfl .nil))))), (by repeat (first | exact Take.nil | apply Take.one (by repeat (first | exact Pick.here | apply Pick.there | apply Pick.far)) | apply Take.seg (by repeat (first | exact PickS.last | exact PickS.one | exact PickS.here | exact PickS.nil | apply PickS.there | apply PickS.far)) | exact Take.last (by repeat (first | exact PickS.last | exact PickS.one | exact PickS.here | exact PickS.nil | apply PickS.there | apply PickS.far)))), ⟨rfl, by dsimp only; omega, by (show Sl s' _ _ _); rw [chunks_succ, List.drop_drop]; simpa using hsl'⟩⟩
              ·
                refine TL.nil ?_
                refine T.cond_f rfl ?_
                refine T.exit ?_
                refine T.seq ?_
                refine T.seq ?_
                refine T.region ?_
                refine TL.cons rfl (V1.t (V1.assign' (by (conv => lhs; whnf) <;> rfl)) ?_)
                refine TL.nil ?_
                refine T.block ?_
                obtain rfl : sa = i := by omega
                refine T.loopL (σ := Nat × Value × List Blk) (l0 := [(0, _), (2, _), (4, _), (5, _), (7, _)]) (fun x => [(9, .int .i64 ((1 + 32 * sa + 4 * x.1 : Nat) : Int)), (13, .int .i64 (x.1 : Nat))]) (fun x L => L = ⟨b4, 0, [.int .i64 (c1.toNat : Nat), sk, x.2.1, .slice none 0 0, .slice none 0 0], 5⟩ :: ⟨b5, 0, [.int .i64 sa, .int .i64 sb, .int .i64 sc, .int .i64 0], 4⟩ :: ⟨b2, 0, [.int .i64 0, .slice none 0 0, .slice none 0 0, .slice none 0 0, .slice none 0 0], 5⟩ :: (x.2.2 ++ Lk) ∧ x.1 ≤ sb ∧ Sl x.2.1 ((nums32 x.1 ((c1 :: tl).drop (1 + 32 * sa))).map u32V) 1 x.2.2) (fun x => sb - x.1) (0, .slice none 0 0, []) (.cons rfl (.cons rfl .nil)) (.cons (by (conv => lhs; whnf) <;> rfl) (.cons (by (conv => lhs; whnf) <;> rfl) (.cons (by (conv => lhs; whnf) <;> rfl) (.cons (by (conv => lhs; whnf) <;> rfl) (.cons (by (conv => lhs; whnf) <;> rfl) .nil))))) (by repeat (first | exact Take.nil | apply Take.one (by repeat (first | exact Pick.here | apply Pick.there | apply Pick.far)) | apply Take.seg (by repeat (first | exact PickS.last | exact PickS.one | exact PickS.here | exact PickS.nil | apply PickS.there | apply PickS.far)) | exact Take.last (by repeat (first | exact PickS.last | exact PickS.one | exact PickS.here | exact PickS.nil | apply PickS.there | apply PickS.far)))) (⟨rfl, Nat.zero_le _, Sl.nil⟩) ?_
                rintro ⟨j, sn, Ln⟩ e_ L ⟨rfl, hi1, hs1⟩
                dsimp only at hi1 hs1
                dsimp only
                refine T.seq ?_
                refine T.seq ?_
                refine T.region ?_
                refine TL.cons rfl (V1.t (V1.move' (by (conv => lhs; whnf) <;> rfl)) ?_)
                refine TL.cons rfl (V1.t (V1.indexAddrA ty_39 sz_3 rfl rfl (by decide) (by decide)) ?_)
                refine TL.cons rfl (V1.t (V1.load1 one_3 rfl (.own (by repeat (first | exact Find.here | apply Find.there | apply Find.far)) (by rfl))) ?_)
                refine TL.cons rfl (T1.ltI_split rfl rfl (fun h31_3 => ?_) (fun h31_3 => ?_))
                ·
                  refine TL.nil ?_
                  refine T.cond_t rfl ?_
                  refine T.skip ?_
                  refine T.seq ?_
                  refine T.block ?_
                  refine T.seq ?_
                  refine T.drawU mixed ?_
                  refine TU.take 0 rfl (by decide +kernel) (by decide +kernel) (by decide +kernel) rfl (fun _ _ _ h => h) (fun _ => V1.fieldAddr fl_27_2 rfl) ?_
                  refine TU.take 2 rfl (by decide +kernel) (by decide +kernel) (by decide +kernel) rfl (fun _ _ _ h => h) (fun _ => V1.move' (by (conv => lhs; whnf) <;> rfl)) ?_
                  refine TU.take 3 rfl (by decide +kernel) (by decide +kernel) (by decide +kernel) rfl (fun _ _ _ h => h) (fun _ => V1.move' (by (conv => lhs; whnf) <;> rfl)) ?_
                  refine TU.two 1 4 (by decide +kernel) rfl rfl rfl rfl (V1.t (V1.load1 one_23 rfl (.own (by repeat (first | exact Find.here | apply Find.there | apply Find.far)) (by rfl))) ?_) (T1.call0 («as» := [.string (bstr (c1 :: tl)), .int .i64 ((1 + 32 * sa + 4 * j) : Nat)]) has_23 rfl (fun w hs => refread_any (c1 :: tl) (1 + 32 * sa + 4 * j) w (by omega) (by omega)) (fun v hv => ?_))
                  ·
                    refine TU.one 4 (by decide +kernel) rfl rfl (T1.call0 («as» := [.string (bstr (c1 :: tl)), .int .i64 ((1 + 32 * sa + 4 * j) : Nat)]) has_23 rfl (fun w hs => refread_any (c1 :: tl) (1 + 32 * sa + 4 * j) w (by omega) (by omega)) (fun v hv => ?_))
                    obtain ⟨nn, hnn⟩ : ∃ n, n = rd32 (c1 :: tl) (1 + 32 * sa + 4 * j) := ⟨_, rfl⟩
                    have hnnl := rd32_lt (c1 :: tl) (1 + 32 * sa + 4 * j)
                    rw [← hnn] at hv hnnl
                    subst hv
                    refine TU.take 5 rfl (by decide +kernel) (by decide +kernel) (by decide +kernel) rfl (fun _ _ _ h => h) (fun _ => V1.conv ty_3 ty_55 rfl (wrap_u32 _ (by omega) (by omega))) ?_
                    refine TU.one 6 (by decide +kernel) rfl rfl (T1.buildSl1 (os := [.tmp 115]) ty_23 sz_55 zr_55 (by decide) rfl (.cons (by (conv => lhs; whnf) <;> rfl) .nil) rfl (ones rfl) (fun b116 => ?_))
                    refine TU.one 7 (by decide +kernel) rfl rfl (T1.append ty_23 kd_23 sz_55 by_55 zr_55 rfl (by decide) (by decide) rfl rfl hs1 (.sl (n := 1) (RdN.whole (by repeat (first | exact Find.here | apply Find.there | apply Find.far))) (by rfl)) (ones rfl) 100 (by simp only [List.length_map, nums32, List.length_range, List.length_cons, List.length_nil]; omega) (by omega) (by repeat (first | exact PickS.last | exact PickS.one | exact PickS.here | exact PickS.nil | apply PickS.there | apply PickS.far)) (fun s' Ls' hsl' => ?_))
                    rw [hnn, ← rd32_drop] at hsl'
                    refine TU.take 8 rfl (by decide +kernel) (by decide +kernel) (by decide +kernel) rfl (fun _ _ _ h => h) (fun _ => V1.fieldAddr fl_27_2 rfl) ?_
                    refine TU.one 9 (by decide +kernel) rfl rfl (T1.store1 rfl rfl sz_23 hsl'.one (by repeat (first | exact Sub.one | apply Sub.there | apply Sub.far)) (Nat.zero_le _) (by repeat (first | exact SetAt.here | apply SetAt.there)) ?_)
                    refine TU.done (by decide +kernel) ?_
                    refine T.region ?_
                    refine TL.cons rfl (V1.t (V1.move' (by (conv => lhs; whnf) <;> rfl)) ?_)
                    refine TL.cons rfl (V1.t (V1.add (c := ((1 + 32 * sa + 4 * (j + 1) : Nat) : Int)) rfl rfl (by rw [show (((1 + 32 * sa + 4 * j) : Nat) : Int) + 4 = ((1 + 32 * sa + 4 * (j + 1) : Nat) : Int) from by omega]; exact wrap_i64 _ (by omega) (by omega))) ?_)
                    refine TL.cons rfl (V1.t (V1.assign' (by (conv => lhs; whnf) <;> rfl)) ?_)
                    refine TL.nil ?_
                    refine T.live (l := [(0, _), (2, _), (4, _), (5, _), (7, _), (9, _), (13, _)]) (.cons (by (conv => lhs; whnf) <;> rfl) (.cons (by (conv => lhs; whnf) <;> rfl) (.cons (by (conv => lhs; whnf) <;> rfl) (.cons (by (conv => lhs; whnf) <;> rfl) (.cons (by (conv => lhs; whnf) <;> rfl) (.cons (by (conv => lhs; whnf) <;> rfl) (.cons (by (conv => lhs; whnf) <;> rfl) .nil))))))) (fun e_ => ?_)
                    refine T.region ?_
                    refine TL.cons rfl (V1.t (V1.move' (by (conv => lhs; whnf) <;> rfl)) ?_)
                    refine TL.cons rfl (V1.t (V1.add rfl rfl (wrap_i64 _ (by omega) (by omega))) ?_)
                    refine TL.cons rfl (V1.t (V1.assign' (by (conv => lhs; whnf) <;> rfl)) ?_)
                    refine TL.nil ?_
                    exact ⟨(j + 1, s', Ls'), _, _, (by dsimp only; omega), (.cons rfl (.cons rfl .nil)), (.cons rfl (.cons rfl (.cons rfl (.cons rfl (.cons rfl .nil))))), (by repeat (first | exact Take.nil | apply Take.one (by repeat (first | exact Pick.here | apply Pick.there | apply Pick.far)) | apply Take.seg (by repeat (first | exact PickS.last | exact PickS.one | exact PickS.here | exact PickS.nil | apply PickS.there | apply PickS.far)) | exact Take.last (by repeat (first | exact PickS.last | exact PickS.one | exact PickS.here | exact PickS.nil | apply PickS.there | apply PickS.far)))), ⟨rfl, by dsimp only; omega, by (show Sl s' _ _ _); rw [nums32_succ, List.drop_drop]; simpa [u32V] using hsl'⟩⟩
                  ·
                    obtain ⟨nn, hnn⟩ : ∃ n, n = rd32 (c1 :: tl) (1 + 32 * sa + 4 * j) := ⟨_, rfl⟩
                    have hnnl := rd32_lt (c1 :: tl) (1 + 32 * sa + 4 * j)
                    rw [← hnn] at hv hnnl
                    subst hv
                    refine TU.take 5 rfl (by decide +kernel) (by decide +kernel) (by decide +kernel) rfl (fun _ _ _ h => h) (fun _ => V1.conv ty_3 ty_55 rfl (wrap_u32 _ (by omega) (by omega))) ?_
                    refine TU.two 1 6 (by decide +kernel) rfl rfl rfl rfl (V1.t (V1.load1 one_23 rfl (.own (by repeat (first | exact Find.here | apply Find.there | apply Find.far)) (by rfl))) ?_) (T1.buildSl1 (os := [.tmp 115]) ty_23 sz_55 zr_55 (by decide) rfl (.cons (by (conv => lhs; whnf) <;> rfl) .nil) rfl (ones rfl) (fun b116 => ?_))
                    ·
                      refine TU.one 6 (by decide +kernel) rfl rfl (T1.buildSl1 (os := [.tmp 115]) ty_23 sz_55 zr_55 (by decide) rfl (.cons (by (conv => lhs; whnf) <;> rfl) .nil) rfl (ones rfl) (fun b116 => ?_))
                      refine TU.one 7 (by decide +kernel) rfl rfl (T1.append ty_23 kd_23 sz_55 by_55 zr_55 rfl (by decide) (by decide) rfl rfl hs1 (.sl (n := 1) (RdN.whole (by repeat (first | exact Find.here | apply Find.there | apply Find.far))) (by rfl)) (ones rfl) 100 (by simp only [List.length_map, nums32, List.length_range, List.length_cons, List.length_nil]; omega) (by omega) (by repeat (first | exact PickS.last | exact PickS.one | exact PickS.here | exact PickS.nil | apply PickS.there | apply PickS.far)) (fun s' Ls' hsl' => ?_))
                      rw [hnn, ← rd32_drop] at hsl'
                      refine TU.take 8 rfl (by decide +kernel) (by decide +kernel) (by decide +kernel) rfl (fun _ _ _ h => h) (fun _ => V1.fieldAddr fl_27_2 rfl) ?_
                      refine TU.one 9 (by decide +kernel) rfl rfl (T1.store1 rfl rfl sz_23 hsl'.one (by repeat (first | exact Sub.one | apply Sub.there | apply Sub.far)) (Nat.zero_le _) (by repeat (first | exact SetAt.here | apply SetAt.there)) ?_)
                      refine TU.done (by decide +kernel) ?_
                      refine T.region ?_
                      refine TL.cons rfl (V1.t (V1.move' (by (conv => lhs; whnf) <;> rfl)) ?_)
                      refine TL.cons rfl (V1.t (V1.add (c := ((1 + 32 * sa + 4 * (j + 1) : Nat) : Int)) rfl rfl (by rw [show (((1 + 32 * sa + 4 * j) : Nat) : Int) + 4 = ((1 + 32 * sa + 4 * (j + 1) : Nat) : Int) from by omega]; exact wrap_i64 _ (by omega) (by omega))) ?_)
                      refine TL.cons rfl (V1.t (V1.assign' (by (conv => lhs; whnf) <;> rfl)) ?_)
                      refine TL.nil ?_
                      refine T.live (l := [(0, _), (2, _), (4, _), (5, _), (7, _), (9, _), (13, _)]) (.cons (by (conv => lhs; whnf) <;> rfl) (.cons (by (conv => lhs; whnf) <;> rfl) (.cons (by (conv => lhs; whnf) <;> rfl) (.cons (by (conv => lhs; whnf) <;> rfl) (.cons (by (conv => lhs; whnf) <;> rfl) (.cons (by (conv => lhs; whnf) <;> rfl) (.cons (by (conv => lhs; whnf) <;> rfl) .nil))))))) (fun e_ => ?_)
                      refine T.region ?_
                      refine TL.cons rfl (V1.t (V1.move' (by (conv => lhs; whnf) <;> rfl)) ?_)
                      refine TL.cons rfl (V1.t (V1.add rfl rfl (wrap_i64 _ (by omega) (by omega))) ?_)
                      refine TL.cons rfl (V1.t (V1.assign' (by (conv => lhs; whnf) <;> rfl)) ?_)
                      refine TL.nil ?_
                      exact ⟨(j + 1, s', Ls'), _, _, (by dsimp only; omega), (.cons rfl (.cons rfl .nil)), (.cons rfl (.cons rfl (.cons rfl (.cons rfl (.cons rfl .nil))))), (by repeat (first | exact Take.nil | apply Take.one (by repeat (first | exact Pick.here | apply Pick.there | apply Pick.far)) | apply Take.seg (by repeat (first | exact PickS.last | exact PickS.one | exact PickS.here | exact PickS.nil | apply PickS.there | apply PickS.far)) | exact Take.last (by repeat (first | exact PickS.last | exact PickS.one | exact PickS.here | exact PickS.nil | apply PickS.there | apply PickS.far)))), ⟨rfl, by dsimp only; omega, by (show Sl s' _ _ _); rw [nums32_succ, List.drop_drop]; simpa [u32V] using hsl'⟩⟩
                    ·
                      refine TU.one 1 (by decide +kernel) rfl rfl (V1.t (V1.load1 one_23 rfl (.own (by repeat (first | exact Find.here | apply Find.there | apply Find.far)) (by rfl))) ?_)
                      refine TU.one 7 (by decide +kernel) rfl rfl (T1.append ty_23 kd_23 sz_55 by_55 zr_55 rfl (by decide) (by decide) rfl rfl hs1 (.sl (n := 1) (RdN.whole (by repeat (first | exact Find.here | apply Find.there | apply Find.far))) (by rfl)) (ones rfl) 100 (by simp only [List.length_map, nums32, List.length_range, List.length_cons, List.length_nil]; omega) (by omega) (by repeat (first | exact PickS.last | exact PickS.one | exact PickS.here | exact PickS.nil | apply PickS.there | apply PickS.far)) (fun s' Ls' hsl' => ?_))
                      rw [hnn, ← rd32_drop] at hsl'
                      refine TU.take 8 rfl (by decide +kernel) (by decide +kernel) (by decide +kernel) rfl (fun _ _ _ h => h) (fun _ => V1.fieldAddr fl_27_2 rfl) ?_
                      refine TU.one 9 (by decide +kernel) rfl rfl (T1.store1 rfl rfl sz_23 hsl'.one (by repeat (first | exact Sub.one | apply Sub.there | apply Sub.far)) (Nat.zero_le _) (by repeat (first | exact SetAt.here | apply SetAt.there)) ?_)
                      refine TU.done (by decide +kernel) ?_
                      refine T.region ?_
                      refine TL.cons rfl (V1.t (V1.move' (by (conv => lhs; whnf) <;> rfl)) ?_)
                      refine TL.cons rfl (V1.t (V1.add (c := ((1 + 32 * sa + 4 * (j + 1) : Nat) : Int)) rfl rfl (by rw [show (((1 + 32 * sa + 4 * j) : Nat) : Int) + 4 = ((1 + 32 * sa + 4 * (j + 1) : Nat) : Int) from by omega]; exact wrap_i64 _ (by omega) (by omega))) ?_)
                      refine TL.cons rfl (V1.t (V1.assign' (by (conv => lhs; whnf) <;> rfl)) ?_)
                      refine TL.nil ?_
                      refine T.live (l := [(0, _), (2, _), (4, _), (5, _), (7, _), (9, _), (13, _)]) (.cons (by (conv => lhs; whnf) <;> rfl) (.cons (by (conv => lhs; whnf) <;> rfl) (.cons (by (conv => lhs; whnf) <;> rfl) (.cons (by (conv => lhs; whnf) <;> rfl) (.cons (by (conv => lhs; whnf) <;> rfl) (.cons (by (conv => lhs; whnf) <;> rfl) (.cons (by (conv => lhs; whnf) <;> rfl) .nil))))))) (fun e_ => ?_)
                      refine T.region ?_
                      refine TL.cons rfl (V1.t (V1.move' (by (conv => lhs; whnf) <;> rfl)) ?_)
                      refine TL.cons rfl (V1.t (V1.add rfl rfl (wrap_i64 _ (by omega) (by omega))) ?_)
                      refine TL.cons rfl (V1.t (V1.assign' (by (conv => lhs; whnf) <;> rfl)) ?_)
                      refine TL.nil ?_
                      exact ⟨(j + 1, s', Ls'), _, _, (by dsimp only; omega), (.cons rfl (.cons rfl .nil)), (.cons rfl (.cons rfl (.cons rfl (.cons rfl (.cons rfl .nil))))), (by repeat (first | exact Take.nil | apply Take.one (by repeat (first | exact Pick.here | apply Pick.there | apply Pick.far)) | apply Take.seg (by repeat (first | exact PickS.last | exact PickS.one | exact PickS.here | exact PickS.nil | apply PickS.there | apply PickS.far)) | exact Take.last (by repeat (first | exact PickS.last | exact PickS.one | exact PickS.here | exact PickS.nil | apply PickS.there | apply PickS.far)))), ⟨rfl, by dsimp only; omega, by (show Sl s' _ _ _); rw [nums32_succ, List.drop_drop]; simpa [u32V] using hsl'⟩⟩
                ·
                  refine TL.nil ?_
                  refine T.cond_f rfl ?_
                  refine T.exit ?_
                  refine T.seq ?_
                  refine T.seq ?_
                  refine T.region ?_
                  refine TL.cons rfl (V1.t (V1.assign' (by (conv => lhs; whnf) <;> rfl)) ?_)
                  refine TL.nil ?_
                  refine T.block ?_
                  obtain rfl : sb = j := by omega
                  refine T.loopL (σ := Nat × Value × List Blk) (l0 := [(0, _), (2, _), (4, _), (5, _), (7, _)]) (fun x => [(9, .int .i64 ((1 + 32 * sa + 4 * sb + 64 * x.1 : Nat) : Int)), (14, .int .i64 (x.1 : Nat))]) (fun x L => L = ⟨b4, 0, [.int .i64 (c1.toNat : Nat), sk, sn, x.2.1, .slice none 0 0], 5⟩ :: ⟨b5, 0, [.int .i64 sa, .int .i64 sb, .int .i64 sc, .int .i64 0], 4⟩ :: ⟨b2, 0, [.int .i64 0, .slice none 0 0, .slice none 0 0, .slice none 0 0, .slice none 0 0], 5⟩ :: (x.2.2 ++ (Ln ++ Lk)) ∧ x.1 ≤ sc ∧ Sl x.2.1 ((chunks 64 x.1 ((c1 :: tl).drop (1 + 32 * sa + 4 * sb))).flatten.map byteV) 64 x.2.2) (fun x => sc - x.1) (0, .slice none 0 0, []) (.cons rfl (.cons rfl .nil)) (.cons (by (conv => lhs; whnf) <;> rfl) (.cons (by (conv => lhs; whnf) <;> rfl) (.cons (by (conv => lhs; whnf) <;> rfl) (.cons (by (conv => lhs; whnf) <;> rfl) (.cons (by (conv => lhs; whnf) <;> rfl) .nil))))) (by repeat (first | exact Take.nil | apply Take.one (by repeat (first | exact Pick.here | apply Pick.there | apply Pick.far)) | apply Take.seg (by repeat (first | exact PickS.last | exact PickS.one | exact PickS.here | exact PickS.nil | apply PickS.there | apply PickS.far)) | exact Take.last (by repeat (first | exact PickS.last | exact PickS.one | exact PickS.here | exact PickS.nil | apply PickS.there | apply PickS.far)))) (⟨rfl, Nat.zero_le _, Sl.nil⟩) ?_
                  rintro ⟨m, sx, Lx⟩ e_ L ⟨rfl, hi2, hs2⟩
                  dsimp only at hi2 hs2
                  dsimp only
                  refine T.seq ?_
                  refine T.seq ?_
                  refine T.region ?_
                  refine TL.cons rfl (V1.t (V1.move' (by (conv => lhs; whnf) <;> rfl)) ?_)
                  refine TL.cons rfl (V1.t (V1.indexAddrA ty_39 sz_3 rfl rfl (by decide) (by decide)) ?_)
                  refine TL.cons rfl (V1.t (V1.load1 one_3 rfl (.own (by repeat (first | exact Find.here | apply Find.there | apply Find.far)) (by rfl))) ?_)
                  refine TL.cons rfl (T1.ltI_split rfl rfl (fun h36_3 => ?_) (fun h36_3 => ?_))
                  ·
                    refine TL.nil ?_
                    refine T.cond_t rfl ?_
                    refine T.skip ?_
                    refine T.seq ?_
                    refine T.block ?_
                    refine T.seq ?_
                    refine T.region ?_
                    refine TL.cons rfl (V1.t (V1.buildA0 ty_60 sz_5 zr_60) ?_)
                    refine TL.cons rfl (T1.allocN 64 zr_60 rfl (fun b15 => ?_))
                    refine TL.cons rfl (T1.storeN rfl rfl sz_60 (ones rfl) (by repeat (first | exact Sub.one | apply Sub.there | apply Sub.far)) (by rfl) (by rfl) ?_)
                    refine TL.nil ?_
                    refine T.seq ?_
                    refine T.seq ?_
                    refine T.region ?_
                    refine TL.cons rfl (V1.t (V1.assign' (by (conv => lhs; whnf) <;> rfl)) ?_)
                    refine TL.nil ?_
                    refine T.block ?_
                    refine T.loopL (σ := Nat) (l0 := [(0, _), (2, _), (4, _), (5, _), (7, _), (9, _), (14, _), (15, _)]) (fun x => [(16, .int .i64 (x : Nat))]) (fun x L => L = ⟨b15, 0, (part 64 ((c1 :: tl).drop (1 + 32 * sa + 4 * sb + 64 * m)) x).map byteV, 64⟩ :: ⟨b4, 0, [.int .i64 (c1.toNat : Nat), sk, sn, sx, .slice none 0 0], 5⟩ :: ⟨b5, 0, [.int .i64 sa, .int .i64 sb, .int .i64 sc, .int .i64 0], 4⟩ :: ⟨b2, 0, [.int .i64 0, .slice none 0 0, .slice none 0 0, .slice none 0 0, .slice none 0 0], 5⟩ :: (Lx ++ (Ln ++ Lk)) ∧ x ≤ 64) (fun x => 64 - x) 0 (.cons rfl .nil) (.cons (by (conv => lhs; whnf) <;> rfl) (.cons (by (conv => lhs; whnf) <;> rfl) (.cons (by (conv => lhs; whnf) <;> rfl) (.cons (by (conv => lhs; whnf) <;> rfl) (.cons (by (conv => lhs; whnf) <;> rfl) (.cons (by (conv => lhs; whnf) <;> rfl) (.cons (by (conv => lhs; whnf) <;> rfl) (.cons (by (conv => lhs; whnf) <;> rfl) .nil)))))))) (by repeat (first | exact Take.nil | apply Take.one (by repeat (first | exact Pick.here | apply Pick.there | apply Pick.far)) | apply Take.seg (by repeat (first | exact PickS.last | exact PickS.one | exact PickS.here | exact PickS.nil | apply PickS.there | apply PickS.far)) | exact Take.last (by repeat (first | exact PickS.last | exact PickS.one | exact PickS.here | exact PickS.nil | apply PickS.there | apply PickS.far)))) (⟨rfl, Nat.zero_le _⟩) ?_
                    rintro q e_ L ⟨rfl, hq⟩
                    refine T.seq ?_
                    refine T.seq ?_
                    refine T.region ?_
                    refine TL.cons rfl (V1.t (V1.move' (by (conv => lhs; whnf) <;> rfl)) ?_)
                    refine TL.cons rfl (T1.ltI_split rfl rfl (fun h40_1 => ?_) (fun h40_1 => ?_))
                    ·
                      obtain ⟨c, hx⟩ : ∃ c, (c1 :: tl)[(1 + 32 * sa + 4 * sb + 64 * m) + q]? = some c := ⟨_, List.getElem?_eq_getElem (by omega)⟩
                      have hx2 : ((c1 :: tl).drop (1 + 32 * sa + 4 * sb + 64 * m))[q]? = some c := by rw [List.getElem?_drop]; exact hx
                      have hkl : 64 ≤ ((c1 :: tl).drop (1 + 32 * sa + 4 * sb + 64 * m)).length := by rw [List.length_drop]; omega
                      have hset := part_step (by omega) hkl hx2
                      refine TL.nil ?_
                      refine T.cond_t rfl ?_
                      refine T.skip ?_
                      refine T.seq ?_
                      refine T.block ?_
                      refine T.region ?_
                      refine TL.cons rfl (V1.t (V1.move' (by (conv => lhs; whnf) <;> rfl)) ?_)
                      refine TL.cons rfl (V1.t (V1.move' (by (conv => lhs; whnf) <;> rfl)) ?_)
                      refine TL.cons rfl (V1.t (V1.move' (by (conv => lhs; whnf) <;> rfl)) ?_)
                      refine TL.cons rfl (V1.t (V1.move' (by (conv => lhs; whnf) <;> rfl)) ?_)
                      refine TL.cons rfl (V1.t (V1.add (c := (((1 + 32 * sa + 4 * sb + 64 * m) + q : Nat) : Int)) rfl rfl (by rw [show (((1 + 32 * sa + 4 * sb + 64 * m) : Nat) : Int) + (q : Nat) = (((1 + 32 * sa + 4 * sb + 64 * m) + q : Nat) : Int) from by omega]; exact wrap_i64 _ (by omega) (by omega))) ?_)
                      refine TL.cons rfl (V1.t (V1.indexStr (c := c) ty_9 rfl rfl (by omega) (bstr_get hx)) ?_)
                      refine TL.cons rfl (V1.t (V1.indexAddrA ty_60 sz_5 rfl rfl (by omega) (by omega)) ?_)
                      refine TL.cons rfl (T1.storeE (o := 0 + q * 1) (cells := (part 64 ((c1 :: tl).drop (1 + 32 * sa + 4 * sb + 64 * m)) q).map byteV) (cells' := (part 64 ((c1 :: tl).drop (1 + 32 * sa + 4 * sb + 64 * m)) (q + 1)).map byteV) rfl rfl sz_5 rfl (by rw [show 0 + q * 1 - 0 = q from by omega]; exact hset) (by repeat (first | exact Sub.one | apply Sub.there | apply Sub.far)) (Nat.zero_le _) (by have := part_len (j := q) (by omega) hkl; rw [List.length_map]; omega) ?_)
                      refine TL.nil ?_
                      refine T.region ?_
                      refine TL.cons rfl (V1.t (V1.move' (by (conv => lhs; whnf) <;> rfl)) ?_)
                      refine TL.cons rfl (V1.t (V1.add rfl rfl (wrap_i64 _ (by omega) (by omega))) ?_)
                      refine TL.cons rfl (V1.t (V1.assign' (by (conv => lhs; whnf) <;> rfl)) ?_)
                      refine TL.nil ?_
                      exact ⟨q + 1, _, _, (by simp only; omega), (.cons rfl .nil), (.cons rfl (.cons rfl (.cons rfl (.cons rfl (.cons rfl (.cons rfl (.cons rfl (.cons rfl .nil)))))))), (by repeat (first | exact Take.nil | apply Take.one (by repeat (first | exact Pick.here | apply Pick.there | apply Pick.far)) | apply Take.seg (by repeat (first | exact PickS.last | exact PickS.one | exact PickS.here | exact PickS.nil | apply PickS.there | apply PickS.far)) | exact Take.last (by repeat (first | exact PickS.last | exact PickS.one | exact PickS.here | exact PickS.nil | apply PickS.there | apply PickS.far)))), ⟨rfl, by omega⟩⟩
                    ·
                      obtain rfl : q = 64 := by omega
                      have hkl : 64 ≤ ((c1 :: tl).drop (1 + 32 * sa + 4 * sb + 64 * m)).length := by rw [List.length_drop]; omega
                      have hpl := part_len (j := 64) (Nat.le_refl _) hkl
                      refine TL.nil ?_
                      refine T.cond_f rfl ?_
                      refine T.exit ?_
                      refine T.seq ?_
                      refine T.region ?_
                      refine TL.cons rfl (V1.t (V1.fieldAddr fl_27_3 rfl) ?_)
                      refine TL.cons rfl (V1.t (V1.load1 one_24 rfl (.own (by repeat (first | exact Find.here | apply Find.there | apply Find.far)) (by rfl))) ?_)
                      refine TL.cons rfl (V1.t (V1.loadN one_60 sz_60 rfl (RdN.whole (by repeat (first | exact Find.here | apply Find.there | apply Find.far))) (by rw [List.length_map]; exact hpl)) ?_)
                      refine TL.cons rfl (T1.buildSlN (os := [.tmp 141]) ty_24 sz_60 zr_60 (by decide) rfl (.cons (by (conv => lhs; whnf) <;> rfl) .nil) (by repeat (first | exact Aggs.nil | apply Aggs.cons rfl)) (by rfl) (by intro y hy; simp only [List.mem_singleton] at hy; subst hy; rw [List.length_map]; exact hpl) (fun bb => ?_))
                      refine TL.cons rfl (T1.append ty_24 kd_24 sz_60 by_60 zr_60 rfl (by decide) (by decide) rfl rfl hs2 (.sl (n := 1) (RdN.whole (by repeat (first | exact Find.here | apply Find.there | apply Find.far))) (by simp only [List.flatten_cons, List.flatten_nil, List.append_nil, List.length_map]; omega)) (by intro u hu; simp only [List.flatten_cons, List.flatten_nil, List.append_nil] at hu; exact one_bytes _ u hu) 100 (by have := chunks_flat_le 64 m ((c1 :: tl).drop (1 + 32 * sa + 4 * sb)); simp only [List.length_map, List.flatten_cons, List.flatten_nil, List.append_nil, hpl]; omega) (by omega) (by repeat (first | exact PickS.last | exact PickS.one | exact PickS.here | exact PickS.nil | apply PickS.there | apply PickS.far)) (fun s' Ls' hsl' => ?_))
                      rw [part_all] at hsl'
                      refine TL.cons rfl (V1.t (V1.fieldAddr fl_27_3 rfl) ?_)
                      refine TL.cons rfl (T1.store1 rfl rfl sz_24 hsl'.one (by repeat (first | exact Sub.one | apply Sub.there | apply Sub.far)) (Nat.zero_le _) (by repeat (first | exact SetAt.here | apply SetAt.there)) ?_)
                      refine TL.nil ?_
                      refine T.region ?_
                      refine TL.cons rfl (V1.t (V1.move' (by (conv => lhs; whnf) <;> rfl)) ?_)
                      refine TL.cons rfl (V1.t (V1.add (c := ((1 + 32 * sa + 4 * sb + 64 * (m + 1) : Nat) : Int)) rfl rfl (by rw [show (((1 + 32 * sa + 4 * sb + 64 * m) : Nat) : Int) + 64 = ((1 + 32 * sa + 4 * sb + 64 * (m + 1) : Nat) : Int) from by omega]; exact wrap_i64 _ (by omega) (by omega))) ?_)
                      refine TL.cons rfl (V1.t (V1.assign' (by (conv => lhs; whnf) <;> rfl)) ?_)
                      refine TL.nil ?_
                      refine T.region ?_
                      refine TL.cons rfl (V1.t (V1.move' (by (conv => lhs; whnf) <;> rfl)) ?_)
                      refine TL.cons rfl (V1.t (V1.add rfl rfl (wrap_i64 _ (by omega) (by omega))) ?_)
                      refine TL.cons rfl (V1.t (V1.assign' (by (conv => lhs; whnf) <;> rfl)) ?_)
                      refine TL.nil ?_
                      exact ⟨(m + 1, s', Ls'), _, _, (by dsimp only; omega), (.cons rfl (.cons rfl .nil)), (.cons rfl (.cons rfl (.cons rfl (.cons rfl (.cons rfl .nil))))), (by repeat (first | exact Take.nil | apply Take.one (by repeat (first | exact Pick.here | apply Pick.there | apply Pick.far)) | apply Take.seg (by repeat (first | exact PickS.last | exact PickS.one | exact PickS.here | exact PickS.nil | apply PickS.there | apply PickS.far)) | exact Take.last (by repeat (first | exact PickS.last | exact PickS.one | exact PickS.here | exact PickS.nil | apply PickS.there | apply PickS.far)))), ⟨rfl, by dsimp only; omega, by (show Sl s' _ _ _); rw [chunks_succ, List.drop_drop]; simpa using hsl'⟩⟩
                  ·
                    refine TL.nil ?_
                    refine T.cond_f rfl ?_
                    refine T.exit ?_
                    refine T.seq ?_
                    refine T.seq ?_
                    refine T.region ?_
                    refine TL.cons rfl (V1.t (V1.indexAddrA ty_39 sz_3 rfl rfl (by decide) (by decide)) ?_)
                    refine TL.cons rfl (V1.t (V1.load1 one_3 rfl (.own (by repeat (first | exact Find.here | apply Find.there | apply Find.far)) (by rfl))) ?_)
                    refine TL.cons rfl (V1.t (V1.eqI rfl rfl (decide_eq_false (by omega))) ?_)
                    refine TL.nil ?_
                    refine T.cond_f rfl ?_
                    refine T.skip ?_
                    refine T.seq ?_
                    refine T.region ?_
                    refine TL.cons rfl (V1.t (V1.loadN one_27 sz_27 rfl (RdN.whole (by repeat (first | exact Find.here | apply Find.there | apply Find.far))) (by rfl)) ?_)
                    refine TL.cons rfl (T1.storeN rfl rfl sz_27 (by intro u hu; simp only [List.mem_cons, List.not_mem_nil, or_false] at hu; rcases hu with rfl | rfl | rfl | rfl | rfl; rfl; exact hs0.one; exact hs1.one; exact hs2.one; exact rfl) (by repeat (first | exact Sub.one | apply Sub.there | apply Sub.far)) (by rfl) (by rfl) ?_)
                    refine TL.cons rfl (V1.t (V1.assign' (by (conv => lhs; whnf) <;> rfl)) ?_)
                    refine TL.nil ?_
                    refine T.ret ?_
                    obtain rfl : sc = m := by omega
                    exact ⟨_, Lk ++ (Ln ++ (Lx ++ [])), _, .cons (.cellN rfl one_27 sz_27 (RdN.whole (by repeat (first | exact Find.here | apply Find.there | apply Find.far))) (by rfl)) (.cons (.tmp (by (conv => lhs; whnf) <;> rfl)) .nil), (by repeat (first | exact Take.nil | apply Take.one (by repeat (first | exact Pick.here | apply Pick.there | apply Pick.far)) | apply Take.seg (by repeat (first | exact PickS.last | exact PickS.one | exact PickS.here | exact PickS.nil | apply PickS.there | apply PickS.far)) | exact Take.last (by repeat (first | exact PickS.last | exact PickS.one | exact PickS.here | exact PickS.nil | apply PickS.there | apply PickS.far)))), decR_ok (by rw [decF_bare rfl hshp, if_neg (by omega), if_neg (by omega)]) hs0 hs1 hs2 Sl.nil⟩
    ·
      refine TL.cons rfl (V1.t (V1.move' (by (conv => lhs; whnf) <;> rfl)) ?_)
      refine TL.cons rfl (V1.t (V1.extract rfl (by rfl)) ?_)
      refine TL.cons rfl (V1.t (V1.extract rfl (by rfl)) ?_)
      refine TL.cons rfl (T1.allocN 4 zr_39 rfl (fun b5 => ?_))
      refine TL.cons rfl (T1.storeN rfl rfl sz_39 (ones rfl) (by repeat (first | exact Sub.one | apply Sub.there | apply Sub.far)) (by rfl) (by rfl) ?_)
      refine TL.cons rfl (V1.t (V1.assign' (by (conv => lhs; whnf) <;> rfl)) ?_)
      refine TL.nil ?_
      refine T.seq ?_
      refine T.seq ?_
      refine T.live (l := [(0, _), (2, _), (4, _), (5, _), (6, _)]) (.cons (by (conv => lhs; whnf) <;> rfl) (.cons (by (conv => lhs; whnf) <;> rfl) (.cons (by (conv => lhs; whnf) <;> rfl) (.cons (by (conv => lhs; whnf) <;> rfl) (.cons (by (conv => lhs; whnf) <;> rfl) .nil))))) (fun e_ => ?_)
      refine T.region ?_
      refine TL.cons rfl (V1.t (V1.move' (by (conv => lhs; whnf) <;> rfl)) ?_)
      refine TL.cons rfl (V1.t (V1.not rfl rfl) ?_)
      refine TL.nil ?_
      refine T.cond_t rfl ?_
      refine T.seq ?_
      refine T.region ?_
      refine TL.cons rfl (V1.t (V1.build0 pl_27 zr_27) ?_)
      refine TL.cons rfl (T1.storeN rfl rfl sz_27 (ones rfl) (by repeat (first | exact Sub.one | apply Sub.there | apply Sub.far)) (by rfl) (by rfl) ?_)
      refine TL.cons rfl (V1.t (V1.assign' (by (conv => lhs; whnf) <;> rfl)) ?_)
      refine TL.nil ?_
      refine T.ret ?_
      exact ⟨_, [], _, .cons (.cellN rfl one_27 sz_27 (RdN.whole (by repeat (first | exact Find.here | apply Find.there | apply Find.far))) (by rfl)) (.cons (.tmp (by (conv => lhs; whnf) <;> rfl)) .nil), (by repeat (first | exact Take.nil | apply Take.one (by repeat (first | exact Pick.here | apply Pick.there | apply Pick.far)) | apply Take.seg (by repeat (first | exact PickS.last | exact PickS.one | exact PickS.here | exact PickS.nil | apply PickS.there | apply PickS.far)) | exact Take.last (by repeat (first | exact PickS.last | exact PickS.one | exact PickS.here | exact PickS.nil | apply PickS.there | apply PickS.far)))), decR_err (decF_none hshp)⟩

end Go.Proofs.Ytgibhdjhgobdnaa.S
