/- The digits of a text; whether two texts have the same. -/
import Derived.Test.YtdgbckfnamiebaaDoorB1
import Derived.Test.YtdgbckfnamiebaaDoorSafeSpec
namespace Go.Proofs.YtdgbckfnamiebaaDoor.S
open Go.RowKit

theorem enc_digit {x : UInt8} (h1 : 48 ≤ x.toNat) (h2 : x.toNat ≤ 57) : encB x = [x] := by
  unfold encB digitB
  rw [if_pos (decide_eq_true ⟨h1, h2⟩)]
theorem plainB_iff {x : UInt8} : plainB x = true ↔ x.toNat = 32 ∨ x.toNat = 10 ∨ x.toNat = 45 := by
  unfold plainB
  simp only [Bool.or_eq_true, beq_iff_eq, ← UInt8.toNat_inj]
  constructor
  · rintro ((h | h) | h)
    · exact .inl h
    · exact .inr (.inl h)
    · exact .inr (.inr h)
  · rintro (h | h | h)
    · exact .inl (.inl h)
    · exact .inl (.inr h)
    · exact .inr h
theorem plain_t {x : UInt8} (h : x.toNat = 32 ∨ x.toNat = 10 ∨ x.toNat = 45) : plainB x = true := plainB_iff.2 h
theorem plain_f {x : UInt8} (h : x.toNat ≠ 32 ∧ x.toNat ≠ 10 ∧ x.toNat ≠ 45) : plainB x = false := by
  cases hp : plainB x with
  | false => rfl
  | true => have := plainB_iff.1 hp; omega
theorem enc_other {x : UInt8} (h0 : ¬ (48 ≤ x.toNat ∧ x.toNat ≤ 57)) (h : x.toNat ≠ 32 ∧ x.toNat ≠ 10 ∧ x.toNat ≠ 45) : encB x = [120, x] := by
  unfold encB digitB
  rw [if_neg (by simpa using h0), plain_f h]; rfl
theorem enc_plain {x : UInt8} (h : x.toNat = 32 ∨ x.toNat = 10 ∨ x.toNat = 45) : encB x = [] := by
  unfold encB
  rw [plain_t h, if_neg (by unfold digitB; simp; omega)]; rfl
theorem bstr_at {l : List UInt8} {i : Nat} (h : i < l.length) : (bstr l)[((i : Nat) : Int).toNat]? = some (l.getD i 0) := by
  rw [Int.toNat_natCast, List.getD_eq_getElem?_getD, List.getElem?_eq_getElem h]
  show (if h : i < (bstr l).size then some (bstr l)[i] else none) = _
  rw [dif_pos (by rw [bstr_size]; exact h)]; rfl
theorem flt_drop {a : List UInt8} {i : Nat} {x : UInt8} (h : a[i]? = some x) : flt (a.drop i) = if plainB x = true then flt (a.drop (i + 1)) else x :: flt (a.drop (i + 1)) := by
  have hi : i < a.length := (List.getElem?_eq_some_iff.1 h).1
  have hx : a[i] = x := (List.getElem?_eq_some_iff.1 h).2
  rw [List.drop_eq_getElem_cons hi, hx]
  unfold flt
  rw [List.filter_cons]
  cases plainB x <;> simp
theorem flt_end {a : List UInt8} : flt (a.drop a.length) = [] := by rw [List.drop_length]; rfl

set_option maxRecDepth 100000 in
set_option maxHeartbeats 1000000 in
theorem digits_any (l : List UInt8) (w : World) (hl : l.length ≤ 90000000000000) : Fn P 15 [.string (bstr l)] w [] (fun v Y => Y = [] ∧ v = .string (bstr (digL l))) := by
  refine Fn.of 38 [.tmp 2] Go.Proofs.Tryd.func15 rfl rfl rfl rfl ?_
  refine T.seq ?_
  refine T.region ?_
  refine TL.cons rfl (V1.t (V1.assign' (by (conv => lhs; whnf) <;> rfl)) ?_)
  refine TL.nil ?_
  refine T.seq ?_
  refine T.region ?_
  refine TL.cons rfl (T1.allocT 2 zr_42 rfl (fun b3 => ?_))
  refine TL.nil ?_
  refine T.seq ?_
  refine T.seq ?_
  refine T.region ?_
  refine TL.cons rfl (V1.t (V1.move' (by (conv => lhs; whnf) <;> rfl)) ?_)
  refine TL.cons rfl (T1.strToBytes ty_9 ty_34 ty_5 rfl (fun bb cb hcb => ?_))
  replace hcb : l.length ≤ cb := hcb
  have hst := BB.new b3
  refine TL.cons rfl (V1.t (V1.lenSl ty_34 rfl) ?_)
  refine TL.cons rfl (V1.t (V1.move' (by (conv => lhs; whnf) <;> rfl)) ?_)
  refine TL.nil ?_
  refine T.block ?_
  refine T.loopL (σ := Nat × List Blk) (l0 := [(3, _), (7, _), (8, _)]) (fun x => [(9, .int .i64 (x.1 : Nat))]) (fun x L => L = ⟨bb, 0, l.map byteV, cb⟩ :: (x.2 ++ []) ∧ BB b3 (digL (l.take x.1)) x.2 ∧ x.1 ≤ l.length) (fun x => l.length - x.1) (0, [⟨⟨b3, some 42⟩, 0, [.pointer none, .slice none 0 0], 2⟩]) (.cons rfl .nil) (.cons (by (conv => lhs; whnf) <;> rfl) (.cons (by (conv => lhs; whnf) <;> rfl) (.cons (by (conv => lhs; whnf) <;> rfl) .nil))) (by repeat (first | exact Take.nil | apply Take.one (by repeat (first | exact Pick.here | apply Pick.there | apply Pick.far)) | apply Take.seg (by repeat (first | exact PickS.last | exact PickS.one | exact PickS.here | exact PickS.nil | apply PickS.there | apply PickS.far)) | exact Take.last (by repeat (first | exact PickS.last | exact PickS.one | exact PickS.here | exact PickS.nil | apply PickS.there | apply PickS.far)))) (⟨(rfl : (⟨bb, 0, l.map byteV, cb⟩ : Blk) :: (([⟨⟨b3, some 42⟩, 0, [.pointer none, .slice none 0 0], 2⟩] : List Blk) ++ []) = _), hst, Nat.zero_le _⟩) ?_
  rintro ⟨k, X⟩ e_ L ⟨rfl, hb, hk⟩
  simp only at hb hk
  refine T.seq ?_
  refine T.region ?_
  refine TL.cons rfl (T1.ltI_split rfl rfl (fun h3_0 => ?_) (fun h3_0 => ?_))
  ·
    obtain ⟨x, hx⟩ : ∃ x, l[k]? = some x := ⟨_, List.getElem?_eq_getElem (by rw [bstr_size] at h3_0; omega)⟩
    have hdl := digL_len (l.take k)
    rw [List.length_take] at hdl
    rw [bstr_size] at h3_0
    have hx8 := x.toNat_lt
    refine TL.nil ?_
    refine T.seq ?_
    refine T.cond_t rfl ?_
    refine T.skip ?_
    refine T.seq ?_
    refine T.block ?_
    refine T.seq ?_
    refine T.region ?_
    refine TL.cons rfl (V1.t (V1.indexAddrS ty_34 sz_5 rfl rfl (by omega) (by rw [bstr_size]; omega)) ?_)
    refine TL.cons rfl (V1.t (V1.load1 one_5 rfl (show Rd _ _ ⟨bb, 0 + k * 1, none⟩ (byteV x) from by rw [Nat.mul_one]; exact Rd.at (cells := l.map byteV) (by repeat (first | exact Find.here | assumption | apply Find.there | apply Find.far)) (by rw [List.getElem?_map, hx]; rfl))) ?_)
    refine TL.cons rfl (V1.t (V1.assign' (by (conv => lhs; whnf) <;> rfl)) ?_)
    refine TL.nil ?_
    refine T.block ?_
    refine T.seq ?_
    refine T.region ?_
    refine TL.cons rfl (V1.t (V1.move' (by (conv => lhs; whnf) <;> rfl)) ?_)
    refine TL.cons rfl (T1.geI_split rfl rfl (fun h5_1 => ?_) (fun h5_1 => ?_))
    ·
      refine TL.cons rfl (V1.t (V1.move' (by (conv => lhs; whnf) <;> rfl)) ?_)
      refine TL.cons rfl (V1.t (V1.move' (by (conv => lhs; whnf) <;> rfl)) ?_)
      refine TL.cons rfl (T1.leI_split rfl rfl (fun h5_4 => ?_) (fun h5_4 => ?_))
      ·
        refine TL.cons rfl (V1.t (V1.pick rfl (by (conv => lhs; whnf) <;> rfl)) ?_)
        refine TL.cons rfl (V1.t (V1.assign' (by (conv => lhs; whnf) <;> rfl)) ?_)
        refine TL.nil ?_
        refine T.cond_t rfl ?_
        refine T.region ?_
        refine TL.cons rfl (V1.t (V1.move' (by (conv => lhs; whnf) <;> rfl)) ?_)
        refine TL.cons rfl (T1.callX (X := X) has_13 rfl (WriteByte_any _ b3 (digL (l.take k)) (x) X hb (by omega)) (by repeat (first | exact Take.nil | apply Take.one (by repeat (first | exact Pick.here | apply Pick.there | apply Pick.far)) | apply Take.seg (by repeat (first | exact PickS.last | exact PickS.one | exact PickS.here | exact PickS.nil | apply PickS.there | apply PickS.far)) | exact Take.last (by repeat (first | exact PickS.last | exact PickS.one | exact PickS.here | exact PickS.nil | apply PickS.there | apply PickS.far)))) (fun v_ X1 h1 => ?_))
        refine TL.nil ?_
        refine T.region ?_
        refine TL.cons rfl (V1.t (V1.add rfl rfl (wrap_i64 _ (by omega) (by omega))) ?_)
        refine TL.cons rfl (V1.t (V1.move' (by (conv => lhs; whnf) <;> rfl)) ?_)
        refine TL.nil ?_
        exact ⟨(k + 1, X1), _, _, (by simp only; omega), (.cons rfl .nil), (.cons rfl (.cons rfl (.cons rfl .nil))), (by repeat (first | exact Take.nil | apply Take.one (by repeat (first | exact Pick.here | apply Pick.there | apply Pick.far)) | apply Take.seg (by repeat (first | exact PickS.last | exact PickS.one | exact PickS.here | exact PickS.nil | apply PickS.there | apply PickS.far)) | exact Take.last (by repeat (first | exact PickS.last | exact PickS.one | exact PickS.here | exact PickS.nil | apply PickS.there | apply PickS.far)))), ⟨rfl, by simp only; rw [digL_take hx, enc_digit (by omega) (by omega)]; first | exact h1 | (rw [List.append_nil]; exact h1) | simpa [List.append_assoc] using h1, by simp only; omega⟩⟩
      ·
        refine TL.cons rfl (V1.t (V1.pick rfl (by (conv => lhs; whnf) <;> rfl)) ?_)
        refine TL.cons rfl (V1.t (V1.assign' (by (conv => lhs; whnf) <;> rfl)) ?_)
        refine TL.nil ?_
        refine T.cond_f rfl ?_
        refine T.seq ?_
        refine T.region ?_
        refine TL.cons rfl (V1.t (V1.move' (by (conv => lhs; whnf) <;> rfl)) ?_)
        refine TL.cons rfl (T1.neI_split rfl rfl (fun h7_1 => ?_) (fun h7_1 => ?_))
        ·
          refine TL.cons rfl (V1.t (V1.move' (by (conv => lhs; whnf) <;> rfl)) ?_)
          refine TL.cons rfl (V1.t (V1.move' (by (conv => lhs; whnf) <;> rfl)) ?_)
          refine TL.cons rfl (T1.neI_split rfl rfl (fun h7_4 => ?_) (fun h7_4 => ?_))
          ·
            refine TL.cons rfl (V1.t (V1.pick rfl (by (conv => lhs; whnf) <;> rfl)) ?_)
            refine TL.cons rfl (V1.t (V1.move' (by (conv => lhs; whnf) <;> rfl)) ?_)
            refine TL.cons rfl (V1.t (V1.move' (by (conv => lhs; whnf) <;> rfl)) ?_)
            refine TL.cons rfl (T1.neI_split rfl rfl (fun h7_8 => ?_) (fun h7_8 => ?_))
            ·
              refine TL.cons rfl (V1.t (V1.pick rfl (by (conv => lhs; whnf) <;> rfl)) ?_)
              refine TL.cons rfl (V1.t (V1.assign' (by (conv => lhs; whnf) <;> rfl)) ?_)
              refine TL.nil ?_
              refine T.cond_t rfl ?_
              refine T.seq ?_
              refine T.live (l := [(3, _), (5, _), (7, _), (8, _), (9, _)]) (.cons (by (conv => lhs; whnf) <;> rfl) (.cons (by (conv => lhs; whnf) <;> rfl) (.cons (by (conv => lhs; whnf) <;> rfl) (.cons (by (conv => lhs; whnf) <;> rfl) (.cons (by (conv => lhs; whnf) <;> rfl) .nil))))) (fun e_ => ?_)
              refine T.region ?_
              refine TL.cons rfl (T1.callX (X := X) has_13 rfl (WriteByte_any _ b3 (digL (l.take k)) (120) X hb (by omega)) (by repeat (first | exact Take.nil | apply Take.one (by repeat (first | exact Pick.here | apply Pick.there | apply Pick.far)) | apply Take.seg (by repeat (first | exact PickS.last | exact PickS.one | exact PickS.here | exact PickS.nil | apply PickS.there | apply PickS.far)) | exact Take.last (by repeat (first | exact PickS.last | exact PickS.one | exact PickS.here | exact PickS.nil | apply PickS.there | apply PickS.far)))) (fun v_ X1 h1 => ?_))
              refine TL.nil ?_
              refine T.region ?_
              refine TL.cons rfl (V1.t (V1.move' (by (conv => lhs; whnf) <;> rfl)) ?_)
              refine TL.cons rfl (T1.callX (X := X1) has_13 rfl (WriteByte_any _ b3 (digL (l.take k) ++ [120]) (x) X1 h1 (by rw [List.length_append, List.length_singleton]; omega)) (by repeat (first | exact Take.nil | apply Take.one (by repeat (first | exact Pick.here | apply Pick.there | apply Pick.far)) | apply Take.seg (by repeat (first | exact PickS.last | exact PickS.one | exact PickS.here | exact PickS.nil | apply PickS.there | apply PickS.far)) | exact Take.last (by repeat (first | exact PickS.last | exact PickS.one | exact PickS.here | exact PickS.nil | apply PickS.there | apply PickS.far)))) (fun v_ X2 h2 => ?_))
              refine TL.nil ?_
              refine T.region ?_
              refine TL.cons rfl (V1.t (V1.add rfl rfl (wrap_i64 _ (by omega) (by omega))) ?_)
              refine TL.cons rfl (V1.t (V1.move' (by (conv => lhs; whnf) <;> rfl)) ?_)
              refine TL.nil ?_
              exact ⟨(k + 1, X2), _, _, (by simp only; omega), (.cons rfl .nil), (.cons rfl (.cons rfl (.cons rfl .nil))), (by repeat (first | exact Take.nil | apply Take.one (by repeat (first | exact Pick.here | apply Pick.there | apply Pick.far)) | apply Take.seg (by repeat (first | exact PickS.last | exact PickS.one | exact PickS.here | exact PickS.nil | apply PickS.there | apply PickS.far)) | exact Take.last (by repeat (first | exact PickS.last | exact PickS.one | exact PickS.here | exact PickS.nil | apply PickS.there | apply PickS.far)))), ⟨rfl, by simp only; rw [digL_take hx, enc_other (by omega) (by omega)]; first | exact h2 | (rw [List.append_nil]; exact h2) | simpa [List.append_assoc] using h2, by simp only; omega⟩⟩
            ·
              refine TL.cons rfl (V1.t (V1.pick rfl (by (conv => lhs; whnf) <;> rfl)) ?_)
              refine TL.cons rfl (V1.t (V1.assign' (by (conv => lhs; whnf) <;> rfl)) ?_)
              refine TL.nil ?_
              refine T.cond_f rfl ?_
              refine T.skip ?_
              refine T.live (l := [(3, _), (7, _), (8, _), (9, _)]) (.cons (by (conv => lhs; whnf) <;> rfl) (.cons (by (conv => lhs; whnf) <;> rfl) (.cons (by (conv => lhs; whnf) <;> rfl) (.cons (by (conv => lhs; whnf) <;> rfl) .nil)))) (fun e_ => ?_)
              refine T.region ?_
              refine TL.cons rfl (V1.t (V1.add rfl rfl (wrap_i64 _ (by omega) (by omega))) ?_)
              refine TL.cons rfl (V1.t (V1.move' (by (conv => lhs; whnf) <;> rfl)) ?_)
              refine TL.nil ?_
              exact ⟨(k + 1, X), _, _, (by simp only; omega), (.cons rfl .nil), (.cons rfl (.cons rfl (.cons rfl .nil))), (by repeat (first | exact Take.nil | apply Take.one (by repeat (first | exact Pick.here | apply Pick.there | apply Pick.far)) | apply Take.seg (by repeat (first | exact PickS.last | exact PickS.one | exact PickS.here | exact PickS.nil | apply PickS.there | apply PickS.far)) | exact Take.last (by repeat (first | exact PickS.last | exact PickS.one | exact PickS.here | exact PickS.nil | apply PickS.there | apply PickS.far)))), ⟨rfl, by simp only; rw [digL_take hx, enc_plain (by omega)]; first | exact hb | (rw [List.append_nil]; exact hb) | simpa [List.append_assoc] using hb, by simp only; omega⟩⟩
          ·
            refine TL.cons rfl (V1.t (V1.pick rfl (by (conv => lhs; whnf) <;> rfl)) ?_)
            refine TL.cons rfl (V1.t (V1.move' (by (conv => lhs; whnf) <;> rfl)) ?_)
            refine TL.no rfl ?_
            refine TL.no rfl ?_
            refine TL.cons rfl (V1.t (V1.pick rfl (by (conv => lhs; whnf) <;> rfl)) ?_)
            refine TL.cons rfl (V1.t (V1.assign' (by (conv => lhs; whnf) <;> rfl)) ?_)
            refine TL.nil ?_
            refine T.cond_f rfl ?_
            refine T.skip ?_
            refine T.live (l := [(3, _), (7, _), (8, _), (9, _)]) (.cons (by (conv => lhs; whnf) <;> rfl) (.cons (by (conv => lhs; whnf) <;> rfl) (.cons (by (conv => lhs; whnf) <;> rfl) (.cons (by (conv => lhs; whnf) <;> rfl) .nil)))) (fun e_ => ?_)
            refine T.region ?_
            refine TL.cons rfl (V1.t (V1.add rfl rfl (wrap_i64 _ (by omega) (by omega))) ?_)
            refine TL.cons rfl (V1.t (V1.move' (by (conv => lhs; whnf) <;> rfl)) ?_)
            refine TL.nil ?_
            exact ⟨(k + 1, X), _, _, (by simp only; omega), (.cons rfl .nil), (.cons rfl (.cons rfl (.cons rfl .nil))), (by repeat (first | exact Take.nil | apply Take.one (by repeat (first | exact Pick.here | apply Pick.there | apply Pick.far)) | apply Take.seg (by repeat (first | exact PickS.last | exact PickS.one | exact PickS.here | exact PickS.nil | apply PickS.there | apply PickS.far)) | exact Take.last (by repeat (first | exact PickS.last | exact PickS.one | exact PickS.here | exact PickS.nil | apply PickS.there | apply PickS.far)))), ⟨rfl, by simp only; rw [digL_take hx, enc_plain (by omega)]; first | exact hb | (rw [List.append_nil]; exact hb) | simpa [List.append_assoc] using hb, by simp only; omega⟩⟩
        ·
          refine TL.cons rfl (V1.t (V1.move' (by (conv => lhs; whnf) <;> rfl)) ?_)
          refine TL.no rfl ?_
          refine TL.no rfl ?_
          refine TL.cons rfl (V1.t (V1.pick rfl (by (conv => lhs; whnf) <;> rfl)) ?_)
          refine TL.cons rfl (V1.t (V1.move' (by (conv => lhs; whnf) <;> rfl)) ?_)
          refine TL.no rfl ?_
          refine TL.no rfl ?_
          refine TL.cons rfl (V1.t (V1.pick rfl (by (conv => lhs; whnf) <;> rfl)) ?_)
          refine TL.cons rfl (V1.t (V1.assign' (by (conv => lhs; whnf) <;> rfl)) ?_)
          refine TL.nil ?_
          refine T.cond_f rfl ?_
          refine T.skip ?_
          refine T.live (l := [(3, _), (7, _), (8, _), (9, _)]) (.cons (by (conv => lhs; whnf) <;> rfl) (.cons (by (conv => lhs; whnf) <;> rfl) (.cons (by (conv => lhs; whnf) <;> rfl) (.cons (by (conv => lhs; whnf) <;> rfl) .nil)))) (fun e_ => ?_)
          refine T.region ?_
          refine TL.cons rfl (V1.t (V1.add rfl rfl (wrap_i64 _ (by omega) (by omega))) ?_)
          refine TL.cons rfl (V1.t (V1.move' (by (conv => lhs; whnf) <;> rfl)) ?_)
          refine TL.nil ?_
          exact ⟨(k + 1, X), _, _, (by simp only; omega), (.cons rfl .nil), (.cons rfl (.cons rfl (.cons rfl .nil))), (by repeat (first | exact Take.nil | apply Take.one (by repeat (first | exact Pick.here | apply Pick.there | apply Pick.far)) | apply Take.seg (by repeat (first | exact PickS.last | exact PickS.one | exact PickS.here | exact PickS.nil | apply PickS.there | apply PickS.far)) | exact Take.last (by repeat (first | exact PickS.last | exact PickS.one | exact PickS.here | exact PickS.nil | apply PickS.there | apply PickS.far)))), ⟨rfl, by simp only; rw [digL_take hx, enc_plain (by omega)]; first | exact hb | (rw [List.append_nil]; exact hb) | simpa [List.append_assoc] using hb, by simp only; omega⟩⟩
    ·
      refine TL.cons rfl (V1.t (V1.move' (by (conv => lhs; whnf) <;> rfl)) ?_)
      refine TL.no rfl ?_
      refine TL.no rfl ?_
      refine TL.cons rfl (V1.t (V1.pick rfl (by (conv => lhs; whnf) <;> rfl)) ?_)
      refine TL.cons rfl (V1.t (V1.assign' (by (conv => lhs; whnf) <;> rfl)) ?_)
      refine TL.nil ?_
      refine T.cond_f rfl ?_
      refine T.seq ?_
      refine T.region ?_
      refine TL.cons rfl (V1.t (V1.move' (by (conv => lhs; whnf) <;> rfl)) ?_)
      refine TL.cons rfl (T1.neI_split rfl rfl (fun h7_1 => ?_) (fun h7_1 => ?_))
      ·
        refine TL.cons rfl (V1.t (V1.move' (by (conv => lhs; whnf) <;> rfl)) ?_)
        refine TL.cons rfl (V1.t (V1.move' (by (conv => lhs; whnf) <;> rfl)) ?_)
        refine TL.cons rfl (T1.neI_split rfl rfl (fun h7_4 => ?_) (fun h7_4 => ?_))
        ·
          refine TL.cons rfl (V1.t (V1.pick rfl (by (conv => lhs; whnf) <;> rfl)) ?_)
          refine TL.cons rfl (V1.t (V1.move' (by (conv => lhs; whnf) <;> rfl)) ?_)
          refine TL.cons rfl (V1.t (V1.move' (by (conv => lhs; whnf) <;> rfl)) ?_)
          refine TL.cons rfl (T1.neI_split rfl rfl (fun h7_8 => ?_) (fun h7_8 => ?_))
          ·
            refine TL.cons rfl (V1.t (V1.pick rfl (by (conv => lhs; whnf) <;> rfl)) ?_)
            refine TL.cons rfl (V1.t (V1.assign' (by (conv => lhs; whnf) <;> rfl)) ?_)
            refine TL.nil ?_
            refine T.cond_t rfl ?_
            refine T.seq ?_
            refine T.live (l := [(3, _), (5, _), (7, _), (8, _), (9, _)]) (.cons (by (conv => lhs; whnf) <;> rfl) (.cons (by (conv => lhs; whnf) <;> rfl) (.cons (by (conv => lhs; whnf) <;> rfl) (.cons (by (conv => lhs; whnf) <;> rfl) (.cons (by (conv => lhs; whnf) <;> rfl) .nil))))) (fun e_ => ?_)
            refine T.region ?_
            refine TL.cons rfl (T1.callX (X := X) has_13 rfl (WriteByte_any _ b3 (digL (l.take k)) (120) X hb (by omega)) (by repeat (first | exact Take.nil | apply Take.one (by repeat (first | exact Pick.here | apply Pick.there | apply Pick.far)) | apply Take.seg (by repeat (first | exact PickS.last | exact PickS.one | exact PickS.here | exact PickS.nil | apply PickS.there | apply PickS.far)) | exact Take.last (by repeat (first | exact PickS.last | exact PickS.one | exact PickS.here | exact PickS.nil | apply PickS.there | apply PickS.far)))) (fun v_ X1 h1 => ?_))
            refine TL.nil ?_
            refine T.region ?_
            refine TL.cons rfl (V1.t (V1.move' (by (conv => lhs; whnf) <;> rfl)) ?_)
            refine TL.cons rfl (T1.callX (X := X1) has_13 rfl (WriteByte_any _ b3 (digL (l.take k) ++ [120]) (x) X1 h1 (by rw [List.length_append, List.length_singleton]; omega)) (by repeat (first | exact Take.nil | apply Take.one (by repeat (first | exact Pick.here | apply Pick.there | apply Pick.far)) | apply Take.seg (by repeat (first | exact PickS.last | exact PickS.one | exact PickS.here | exact PickS.nil | apply PickS.there | apply PickS.far)) | exact Take.last (by repeat (first | exact PickS.last | exact PickS.one | exact PickS.here | exact PickS.nil | apply PickS.there | apply PickS.far)))) (fun v_ X2 h2 => ?_))
            refine TL.nil ?_
            refine T.region ?_
            refine TL.cons rfl (V1.t (V1.add rfl rfl (wrap_i64 _ (by omega) (by omega))) ?_)
            refine TL.cons rfl (V1.t (V1.move' (by (conv => lhs; whnf) <;> rfl)) ?_)
            refine TL.nil ?_
            exact ⟨(k + 1, X2), _, _, (by simp only; omega), (.cons rfl .nil), (.cons rfl (.cons rfl (.cons rfl .nil))), (by repeat (first | exact Take.nil | apply Take.one (by repeat (first | exact Pick.here | apply Pick.there | apply Pick.far)) | apply Take.seg (by repeat (first | exact PickS.last | exact PickS.one | exact PickS.here | exact PickS.nil | apply PickS.there | apply PickS.far)) | exact Take.last (by repeat (first | exact PickS.last | exact PickS.one | exact PickS.here | exact PickS.nil | apply PickS.there | apply PickS.far)))), ⟨rfl, by simp only; rw [digL_take hx, enc_other (by omega) (by omega)]; first | exact h2 | (rw [List.append_nil]; exact h2) | simpa [List.append_assoc] using h2, by simp only; omega⟩⟩
          ·
            refine TL.cons rfl (V1.t (V1.pick rfl (by (conv => lhs; whnf) <;> rfl)) ?_)
            refine TL.cons rfl (V1.t (V1.assign' (by (conv => lhs; whnf) <;> rfl)) ?_)
            refine TL.nil ?_
            refine T.cond_f rfl ?_
            refine T.skip ?_
            refine T.live (l := [(3, _), (7, _), (8, _), (9, _)]) (.cons (by (conv => lhs; whnf) <;> rfl) (.cons (by (conv => lhs; whnf) <;> rfl) (.cons (by (conv => lhs; whnf) <;> rfl) (.cons (by (conv => lhs; whnf) <;> rfl) .nil)))) (fun e_ => ?_)
            refine T.region ?_
            refine TL.cons rfl (V1.t (V1.add rfl rfl (wrap_i64 _ (by omega) (by omega))) ?_)
            refine TL.cons rfl (V1.t (V1.move' (by (conv => lhs; whnf) <;> rfl)) ?_)
            refine TL.nil ?_
            exact ⟨(k + 1, X), _, _, (by simp only; omega), (.cons rfl .nil), (.cons rfl (.cons rfl (.cons rfl .nil))), (by repeat (first | exact Take.nil | apply Take.one (by repeat (first | exact Pick.here | apply Pick.there | apply Pick.far)) | apply Take.seg (by repeat (first | exact PickS.last | exact PickS.one | exact PickS.here | exact PickS.nil | apply PickS.there | apply PickS.far)) | exact Take.last (by repeat (first | exact PickS.last | exact PickS.one | exact PickS.here | exact PickS.nil | apply PickS.there | apply PickS.far)))), ⟨rfl, by simp only; rw [digL_take hx, enc_plain (by omega)]; first | exact hb | (rw [List.append_nil]; exact hb) | simpa [List.append_assoc] using hb, by simp only; omega⟩⟩
        ·
          refine TL.cons rfl (V1.t (V1.pick rfl (by (conv => lhs; whnf) <;> rfl)) ?_)
          refine TL.cons rfl (V1.t (V1.move' (by (conv => lhs; whnf) <;> rfl)) ?_)
          refine TL.no rfl ?_
          refine TL.no rfl ?_
          refine TL.cons rfl (V1.t (V1.pick rfl (by (conv => lhs; whnf) <;> rfl)) ?_)
          refine TL.cons rfl (V1.t (V1.assign' (by (conv => lhs; whnf) <;> rfl)) ?_)
          refine TL.nil ?_
          refine T.cond_f rfl ?_
          refine T.skip ?_
          refine T.live (l := [(3, _), (7, _), (8, _), (9, _)]) (.cons (by (conv => lhs; whnf) <;> rfl) (.cons (by (conv => lhs; whnf) <;> rfl) (.cons (by (conv => lhs; whnf) <;> rfl) (.cons (by (conv => lhs; whnf) <;> rfl) .nil)))) (fun e_ => ?_)
          refine T.region ?_
          refine TL.cons rfl (V1.t (V1.add rfl rfl (wrap_i64 _ (by omega) (by omega))) ?_)
          refine TL.cons rfl (V1.t (V1.move' (by (conv => lhs; whnf) <;> rfl)) ?_)
          refine TL.nil ?_
          exact ⟨(k + 1, X), _, _, (by simp only; omega), (.cons rfl .nil), (.cons rfl (.cons rfl (.cons rfl .nil))), (by repeat (first | exact Take.nil | apply Take.one (by repeat (first | exact Pick.here | apply Pick.there | apply Pick.far)) | apply Take.seg (by repeat (first | exact PickS.last | exact PickS.one | exact PickS.here | exact PickS.nil | apply PickS.there | apply PickS.far)) | exact Take.last (by repeat (first | exact PickS.last | exact PickS.one | exact PickS.here | exact PickS.nil | apply PickS.there | apply PickS.far)))), ⟨rfl, by simp only; rw [digL_take hx, enc_plain (by omega)]; first | exact hb | (rw [List.append_nil]; exact hb) | simpa [List.append_assoc] using hb, by simp only; omega⟩⟩
      ·
        refine TL.cons rfl (V1.t (V1.move' (by (conv => lhs; whnf) <;> rfl)) ?_)
        refine TL.no rfl ?_
        refine TL.no rfl ?_
        refine TL.cons rfl (V1.t (V1.pick rfl (by (conv => lhs; whnf) <;> rfl)) ?_)
        refine TL.cons rfl (V1.t (V1.move' (by (conv => lhs; whnf) <;> rfl)) ?_)
        refine TL.no rfl ?_
        refine TL.no rfl ?_
        refine TL.cons rfl (V1.t (V1.pick rfl (by (conv => lhs; whnf) <;> rfl)) ?_)
        refine TL.cons rfl (V1.t (V1.assign' (by (conv => lhs; whnf) <;> rfl)) ?_)
        refine TL.nil ?_
        refine T.cond_f rfl ?_
        refine T.skip ?_
        refine T.live (l := [(3, _), (7, _), (8, _), (9, _)]) (.cons (by (conv => lhs; whnf) <;> rfl) (.cons (by (conv => lhs; whnf) <;> rfl) (.cons (by (conv => lhs; whnf) <;> rfl) (.cons (by (conv => lhs; whnf) <;> rfl) .nil)))) (fun e_ => ?_)
        refine T.region ?_
        refine TL.cons rfl (V1.t (V1.add rfl rfl (wrap_i64 _ (by omega) (by omega))) ?_)
        refine TL.cons rfl (V1.t (V1.move' (by (conv => lhs; whnf) <;> rfl)) ?_)
        refine TL.nil ?_
        exact ⟨(k + 1, X), _, _, (by simp only; omega), (.cons rfl .nil), (.cons rfl (.cons rfl (.cons rfl .nil))), (by repeat (first | exact Take.nil | apply Take.one (by repeat (first | exact Pick.here | apply Pick.there | apply Pick.far)) | apply Take.seg (by repeat (first | exact PickS.last | exact PickS.one | exact PickS.here | exact PickS.nil | apply PickS.there | apply PickS.far)) | exact Take.last (by repeat (first | exact PickS.last | exact PickS.one | exact PickS.here | exact PickS.nil | apply PickS.there | apply PickS.far)))), ⟨rfl, by simp only; rw [digL_take hx, enc_plain (by omega)]; first | exact hb | (rw [List.append_nil]; exact hb) | simpa [List.append_assoc] using hb, by simp only; omega⟩⟩
  ·
    rw [bstr_size] at h3_0
    obtain rfl : k = l.length := by omega
    rw [List.take_length] at hb
    have hdl := digL_len l
    refine TL.nil ?_
    refine T.seq ?_
    refine T.cond_f rfl ?_
    refine T.exit ?_
    refine T.seq ?_
    refine T.region ?_
    refine TL.cons rfl (T1.callX (X := X) has_14 rfl (String_any _ b3 (digL l) X hb (by omega)) (by repeat (first | exact Take.nil | apply Take.one (by repeat (first | exact Pick.here | apply Pick.there | apply Pick.far)) | apply Take.seg (by repeat (first | exact PickS.last | exact PickS.one | exact PickS.here | exact PickS.nil | apply PickS.there | apply PickS.far)) | exact Take.last (by repeat (first | exact PickS.last | exact PickS.one | exact PickS.here | exact PickS.nil | apply PickS.there | apply PickS.far)))) (fun v_ Y_ hY_ => ?_))
    obtain ⟨rfl, hzz⟩ := hY_
    rw [hzz, List.nil_append]
    refine TL.cons rfl (V1.t (V1.assign' (by (conv => lhs; whnf) <;> rfl)) ?_)
    refine TL.nil ?_
    refine T.ret ?_
    exact ⟨_, [], _, .cons (.tmp (by (conv => lhs; whnf) <;> rfl)) .nil, Take.nil, rfl, rfl⟩

set_option maxRecDepth 100000 in
theorem Same_any (a b : List UInt8) (w : World) (ha : a.length ≤ 90000000000000) (hb : b.length ≤ 90000000000000) : Fn P 10 [.string (bstr a), .string (bstr b)] w [] (fun v Y => Y = [] ∧ v = .bool (decide (flt a = flt b))) := by
  refine Fn.of 10 [.tmp 4] Go.Proofs.Tryd.func10 rfl rfl rfl rfl ?_
  refine T.seq ?_
  refine T.region ?_
  refine TL.cons rfl (V1.t (V1.assign' (by (conv => lhs; whnf) <;> rfl)) ?_)
  refine TL.nil ?_
  refine T.seq ?_
  refine T.region ?_
  refine TL.cons rfl (V1.t (V1.move' (by (conv => lhs; whnf) <;> rfl)) ?_)
  refine TL.cons rfl (T1.call0 has_15 rfl (fun w hs => digits_any a w (by omega)) (fun v hv => ?_))
  subst hv
  refine TL.cons rfl (V1.t (V1.move' (by (conv => lhs; whnf) <;> rfl)) ?_)
  refine TL.cons rfl (T1.call0 has_15 rfl (fun w hs => digits_any b w (by omega)) (fun v hv => ?_))
  subst hv
  refine TL.cons rfl (V1.t (V1.eqS (r := decide (flt a = flt b)) rfl rfl (by rw [decide_eq_decide]; exact ⟨fun h => digL_eq.1 (bstr_inj h), fun h => by rw [digL_eq.2 h]⟩)) ?_)
  refine TL.cons rfl (V1.t (V1.assign' (by (conv => lhs; whnf) <;> rfl)) ?_)
  refine TL.nil ?_
  refine T.ret ?_
  exact ⟨_, [], _, .cons (.tmp (by (conv => lhs; whnf) <;> rfl)) .nil, Take.nil, rfl, rfl⟩

end Go.Proofs.YtdgbckfnamiebaaDoor.S
