/- The groups of a text, and the document's. -/
import Derived.Test.YtdgbckfnamiebaaDoorD2
import Derived.Test.YtdgbckfnamiebaaDoorB7
namespace Go.Proofs.YtdgbckfnamiebaaDoor.S
open Go.RowKit

/-- What reading answers. -/
def prsV : Option (List Nat) → Value
  | some gs => .tuple #[.agg (gs.map u32V).toArray, .int .i64 0]
  | none => .tuple #[.agg #[.int .u32 0, .int .u32 0, .int .u32 0, .int .u32 0, .int .u32 0, .int .u32 0], .int .i64 110]
theorem u32_set {A : List Nat} {B : List Value} {v u : Nat} {i : Nat} (hl : A.length = i) : (A.map u32V ++ u32V v :: B).set i (u32V u) = A.map u32V ++ u32V u :: B := by
  rw [List.set_append_right _ _ (by rw [List.length_map]; omega), List.length_map, hl, Nat.sub_self, List.set_cons_zero]
theorem parse_len {ws : List (List UInt8)} (h : ws.length ≠ 6) : parseW ws = none := by
  unfold parseW; rw [if_neg (fun hh => h hh.1)]
theorem parse_bad {ws : List (List UInt8)} {w : List UInt8} (h : w ∈ ws) (hg : ¬ goodW w = true) : parseW ws = none := by
  unfold parseW; rw [if_neg (fun hh => hg (List.all_eq_true.1 hh.2 w h))]
theorem good_mk {w : List UInt8} (h : w.length = 5) (hd : ∀ x ∈ w, digitB x = true) : goodW w = true := by
  unfold goodW; rw [Bool.and_eq_true]; exact ⟨decide_eq_true h, List.all_eq_true.2 hd⟩
theorem parse_some {ws : List (List UInt8)} (h : ws.length = 6) (hg : ∀ w ∈ ws, goodW w = true) : parseW ws = some (ws.map valW) := by
  unfold parseW; rw [if_pos ⟨h, List.all_eq_true.2 hg⟩]
theorem dig_range {x : UInt8} (h : digitB x = true) : 48 ≤ x.toNat ∧ x.toNat ≤ 57 := of_decide_eq_true h
theorem groups_open {A : List Nat} {m : Nat} : A.map u32V ++ List.replicate (m + 1) (Value.int .u32 0) = A.map u32V ++ u32V (valW ([] : List UInt8)) :: List.replicate m (Value.int .u32 0) := by
  rw [List.replicate_succ]; rfl
theorem groups_close {A : List Nat} {n m : Nat} : A.map u32V ++ u32V n :: List.replicate m (Value.int .u32 0) = (A ++ [n]).map u32V ++ List.replicate m (Value.int .u32 0) := by
  rw [List.map_append, List.append_assoc]; rfl

set_option maxRecDepth 100000 in
set_option maxHeartbeats 2000000 in
theorem Parse_any (l : List UInt8) (w : World) (hl : l.length ≤ 2000000) : Fn P 6 [.string (bstr l)] w [] (fun v Y => Y = [] ∧ v = prsV (parseW (words l))) := by
  refine Fn.of 52 [.cell 2 24, .tmp 3] Go.Proofs.Tryd.func6 rfl rfl rfl rfl ?_
  refine T.seq ?_
  refine T.region ?_
  refine TL.cons rfl (T1.allocN 6 zr_24 rfl (fun b2 => ?_))
  refine TL.cons rfl (V1.t (V1.assign' (by (conv => lhs; whnf) <;> rfl)) ?_)
  refine TL.nil ?_
  refine T.seq ?_
  refine T.region ?_
  refine TL.cons rfl (V1.t (V1.move' (by (conv => lhs; whnf) <;> rfl)) ?_)
  refine TL.cons rfl (T1.callN has_11 rfl (fun w hs => Split_any l w hl) (fun v_ Y_ hY => ?_))
  obtain ⟨b, c, rfl, rfl⟩ := hY
  simp only [List.cons_append, List.nil_append]
  refine TL.cons rfl (V1.t (V1.assign' (by (conv => lhs; whnf) <;> rfl)) ?_)
  refine TL.nil ?_
  refine T.seq ?_
  refine T.region ?_
  refine TL.cons rfl (T1.allocN 6 zr_24 rfl (fun b5 => ?_))
  refine TL.nil ?_
  refine T.seq ?_
  refine T.seq ?_
  refine T.region ?_
  refine TL.cons rfl (V1.t (V1.move' (by (conv => lhs; whnf) <;> rfl)) ?_)
  refine TL.cons rfl (V1.t (V1.lenSl ty_37 rfl) ?_)
  refine TL.cons rfl (T1.neI_split rfl rfl (fun h3 => ?_) (fun h3 => ?_))
  ·
    have hp : parseW (words l) = none := parse_len (by omega)
    refine TL.nil ?_
    refine T.cond_t rfl ?_
    refine T.seq ?_
    refine T.region ?_
    refine TL.cons rfl (V1.t (V1.buildA0 ty_24 sz_22 zr_24) ?_)
    refine TL.cons rfl (T1.storeN (vs := ([.int .u32 0, .int .u32 0, .int .u32 0, .int .u32 0, .int .u32 0, .int .u32 0] : List Value)) rfl rfl sz_24 (ones rfl) (by repeat (first | exact Sub.one | apply Sub.there | apply Sub.far)) (by rfl) (by rfl) ?_)
    refine TL.cons rfl (V1.t (V1.assign' (by (conv => lhs; whnf) <;> rfl)) ?_)
    refine TL.nil ?_
    refine T.ret ?_
    exact ⟨_, [], _, .cons (.cellN (by (conv => lhs; whnf) <;> rfl) one_24 sz_24 (RdN.whole (cells := ([.int .u32 0, .int .u32 0, .int .u32 0, .int .u32 0, .int .u32 0, .int .u32 0] : List Value)) (by repeat (first | exact Find.here | assumption | apply Find.there | apply Find.far))) (by rfl)) (.cons (.tmp (by (conv => lhs; whnf) <;> rfl)) .nil), Take.nil, rfl, by rw [hp]; rfl⟩
  ·
    have h6 : (words l).length = 6 := by omega
    refine TL.nil ?_
    refine T.cond_f rfl ?_
    refine T.skip ?_
    refine T.seq ?_
    refine T.seq ?_
    refine T.region ?_
    refine TL.cons rfl (V1.t (V1.move' (by (conv => lhs; whnf) <;> rfl)) ?_)
    refine TL.cons rfl (V1.t (V1.lenSl ty_37 rfl) ?_)
    refine TL.cons rfl (V1.t (V1.move' (by (conv => lhs; whnf) <;> rfl)) ?_)
    refine TL.nil ?_
    refine T.block ?_
    refine T.loopL (σ := Nat) (l0 := [(2, _), (5, _), (16, _), (17, _)]) (fun x => [(18, .int .i64 (x : Nat))]) (fun i L => L = ⟨b5, 0, (((words l).take i).map valW).map u32V ++ List.replicate (6 - i) (Value.int .u32 0), 6⟩ :: ⟨b, 0, (words l).map strV, (words l).length⟩ :: ⟨b2, 0, ([.int .u32 0, .int .u32 0, .int .u32 0, .int .u32 0, .int .u32 0, .int .u32 0] : List Value), 6⟩ :: [] ∧ i ≤ 6 ∧ (∀ w ∈ (words l).take i, goodW w = true)) (fun x => 6 - x) 0 (.cons rfl .nil) (.cons (by (conv => lhs; whnf) <;> rfl) (.cons (by (conv => lhs; whnf) <;> rfl) (.cons (by (conv => lhs; whnf) <;> rfl) (.cons (by (conv => lhs; whnf) <;> rfl) .nil)))) (by repeat (first | exact Take.nil | apply Take.one (by repeat (first | exact Pick.here | apply Pick.there | apply Pick.far)) | apply Take.seg (by repeat (first | exact PickS.last | exact PickS.one | exact PickS.here | exact PickS.nil | apply PickS.there | apply PickS.far)) | exact Take.last (by repeat (first | exact PickS.last | exact PickS.one | exact PickS.here | exact PickS.nil | apply PickS.there | apply PickS.far)))) (⟨(rfl : (⟨b5, 0, ([.int .u32 0, .int .u32 0, .int .u32 0, .int .u32 0, .int .u32 0, .int .u32 0] : List Value), 6⟩ : Blk) :: ⟨b, 0, (words l).map strV, (words l).length⟩ :: ⟨b2, 0, ([.int .u32 0, .int .u32 0, .int .u32 0, .int .u32 0, .int .u32 0, .int .u32 0] : List Value), 6⟩ :: [] = _), Nat.zero_le _, fun w hw => by rw [List.take_zero] at hw; cases hw⟩) ?_
    rintro i e_ L ⟨rfl, hi, hgd⟩
    refine T.seq ?_
    refine T.region ?_
    refine TL.cons rfl (T1.ltI_split rfl rfl (fun h6_ => ?_) (fun h6_ => ?_))
    ·
      try simp only at h6_
      obtain ⟨u, hu⟩ : ∃ u, (words l)[i]? = some u := ⟨_, List.getElem?_eq_getElem (by omega)⟩
      have hum := List.mem_of_getElem? hu
      have hA : (((words l).take i).map valW).length = i := by rw [List.length_map, List.length_take]; omega
      refine TL.nil ?_
      refine T.seq ?_
      refine T.cond_t rfl ?_
      refine T.skip ?_
      refine T.seq ?_
      refine T.block ?_
      refine T.seq ?_
      refine T.region ?_
      refine TL.cons rfl (V1.t (V1.move' (by (conv => lhs; whnf) <;> rfl)) ?_)
      refine TL.cons rfl (V1.t (V1.indexAddrS ty_37 sz_9 rfl rfl (by omega) (by omega)) ?_)
      refine TL.cons rfl (V1.t (V1.load1 one_9 rfl (show Rd _ _ ⟨b, 0 + i * 1, none⟩ (strV u) from by rw [Nat.mul_one]; exact Rd.at (cells := (words l).map strV) (by repeat (first | exact Find.here | assumption | apply Find.there | apply Find.far)) (by rw [List.getElem?_map, hu]; rfl))) ?_)
      refine TL.cons rfl (V1.t (V1.assign' (by (conv => lhs; whnf) <;> rfl)) ?_)
      refine TL.cons rfl (V1.t (V1.assign' (by (conv => lhs; whnf) <;> rfl)) ?_)
      refine TL.nil ?_
      refine T.seq ?_
      refine T.seq ?_
      refine T.region ?_
      refine TL.cons rfl (V1.t (V1.move' (by (conv => lhs; whnf) <;> rfl)) ?_)
      refine TL.cons rfl (V1.t (V1.lenS (s := bstr u) ty_9 rfl) ?_)
      refine TL.cons rfl (T1.neI_split rfl rfl (fun h8 => ?_) (fun h8 => ?_))
      ·
        rw [bstr_size] at h8
        have hp : parseW (words l) = none := parse_bad hum (fun hg => by have := good_len hg; omega)
        refine TL.cons rfl (V1.t (V1.move' (by (conv => lhs; whnf) <;> rfl)) ?_)
        refine TL.no rfl ?_
        refine TL.no rfl ?_
        refine TL.no rfl ?_
        refine TL.cons rfl (V1.t (V1.pick rfl (by (conv => lhs; whnf) <;> rfl)) ?_)
        refine TL.nil ?_
        refine T.cond_t rfl ?_
        refine T.seq ?_
        refine T.region ?_
        refine TL.cons rfl (V1.t (V1.buildA0 ty_24 sz_22 zr_24) ?_)
        refine TL.cons rfl (T1.storeN (vs := ([.int .u32 0, .int .u32 0, .int .u32 0, .int .u32 0, .int .u32 0, .int .u32 0] : List Value)) rfl rfl sz_24 (ones rfl) (by repeat (first | exact Sub.one | apply Sub.there | apply Sub.far)) (by rfl) (by rfl) ?_)
        refine TL.cons rfl (V1.t (V1.assign' (by (conv => lhs; whnf) <;> rfl)) ?_)
        refine TL.nil ?_
        refine T.ret ?_
        exact ⟨_, [], _, .cons (.cellN (by (conv => lhs; whnf) <;> rfl) one_24 sz_24 (RdN.whole (cells := ([.int .u32 0, .int .u32 0, .int .u32 0, .int .u32 0, .int .u32 0, .int .u32 0] : List Value)) (by repeat (first | exact Find.here | assumption | apply Find.there | apply Find.far))) (by rfl)) (.cons (.tmp (by (conv => lhs; whnf) <;> rfl)) .nil), Take.nil, rfl, by rw [hp]; rfl⟩
      ·
        rw [bstr_size] at h8
        have hu5 : u.length = 5 := by omega
        refine TL.cons rfl (V1.t (V1.move' (by (conv => lhs; whnf) <;> rfl)) ?_)
        refine TL.cons rfl (V1.t (V1.move' (by (conv => lhs; whnf) <;> rfl)) ?_)
        refine TL.cons rfl (T1.call0 has_12 rfl (fun w hs => Trim_any u w (by omega)) (fun v_ hv => ?_))
        obtain ⟨tr, rfl, htr⟩ := hv
        refine TL.cons rfl (T1.neS_split (l := tr) (m := []) rfl rfl (fun h8b => ?_) (fun h8b => ?_))
        ·
          have hp : parseW (words l) = none := parse_bad hum (fun hg => h8b (htr.2 (good_dig hg)))
          refine TL.cons rfl (V1.t (V1.pick rfl (by (conv => lhs; whnf) <;> rfl)) ?_)
          refine TL.nil ?_
          refine T.cond_t rfl ?_
          refine T.seq ?_
          refine T.region ?_
          refine TL.cons rfl (V1.t (V1.buildA0 ty_24 sz_22 zr_24) ?_)
          refine TL.cons rfl (T1.storeN (vs := ([.int .u32 0, .int .u32 0, .int .u32 0, .int .u32 0, .int .u32 0, .int .u32 0] : List Value)) rfl rfl sz_24 (ones rfl) (by repeat (first | exact Sub.one | apply Sub.there | apply Sub.far)) (by rfl) (by rfl) ?_)
          refine TL.cons rfl (V1.t (V1.assign' (by (conv => lhs; whnf) <;> rfl)) ?_)
          refine TL.nil ?_
          refine T.ret ?_
          exact ⟨_, [], _, .cons (.cellN (by (conv => lhs; whnf) <;> rfl) one_24 sz_24 (RdN.whole (cells := ([.int .u32 0, .int .u32 0, .int .u32 0, .int .u32 0, .int .u32 0, .int .u32 0] : List Value)) (by repeat (first | exact Find.here | assumption | apply Find.there | apply Find.far))) (by rfl)) (.cons (.tmp (by (conv => lhs; whnf) <;> rfl)) .nil), Take.nil, rfl, by rw [hp]; rfl⟩
        ·
          have hdu := htr.1 h8b
          have hgu := good_mk hu5 hdu
          refine TL.cons rfl (V1.t (V1.pick rfl (by (conv => lhs; whnf) <;> rfl)) ?_)
          refine TL.nil ?_
          refine T.cond_f rfl ?_
          refine T.skip ?_
          refine T.seq ?_
          refine T.region ?_
          refine TL.cons rfl (V1.t (V1.move' (by (conv => lhs; whnf) <;> rfl)) ?_)
          refine TL.cons rfl (T1.strToBytes (a := bstr u) ty_9 ty_34 ty_5 rfl (fun bb cb hcb => ?_))
          replace hcb : u.length ≤ cb := hcb
          rw [show 6 - i = (5 - i) + 1 from by omega, groups_open]
          rw [show (bstr u).data.toList = u from rfl]
          refine TL.cons rfl (V1.t (V1.lenSl ty_34 rfl) ?_)
          refine TL.cons rfl (V1.t (V1.move' (by (conv => lhs; whnf) <;> rfl)) ?_)
          refine TL.nil ?_
          refine T.block ?_
          refine T.loopL (σ := Nat) (l0 := [(2, _), (5, _), (6, _), (16, _), (17, _), (18, _), (33, _), (34, _)]) (fun x => [(35, .int .i64 (x : Nat))]) (fun k L => L = ⟨bb, 0, u.map byteV, cb⟩ :: ⟨b5, 0, (((words l).take i).map valW).map u32V ++ u32V (valW (u.take k)) :: List.replicate (5 - i) (Value.int .u32 0), 6⟩ :: ⟨b, 0, (words l).map strV, (words l).length⟩ :: ⟨b2, 0, ([.int .u32 0, .int .u32 0, .int .u32 0, .int .u32 0, .int .u32 0, .int .u32 0] : List Value), 6⟩ :: [] ∧ k ≤ 5) (fun x => 5 - x) 0 (.cons rfl .nil) (.cons (by (conv => lhs; whnf) <;> rfl) (.cons (by (conv => lhs; whnf) <;> rfl) (.cons (by (conv => lhs; whnf) <;> rfl) (.cons (by (conv => lhs; whnf) <;> rfl) (.cons (by (conv => lhs; whnf) <;> rfl) (.cons (by (conv => lhs; whnf) <;> rfl) (.cons (by (conv => lhs; whnf) <;> rfl) (.cons (by (conv => lhs; whnf) <;> rfl) .nil)))))))) (by repeat (first | exact Take.nil | apply Take.one (by repeat (first | exact Pick.here | apply Pick.there | apply Pick.far)) | apply Take.seg (by repeat (first | exact PickS.last | exact PickS.one | exact PickS.here | exact PickS.nil | apply PickS.there | apply PickS.far)) | exact Take.last (by repeat (first | exact PickS.last | exact PickS.one | exact PickS.here | exact PickS.nil | apply PickS.there | apply PickS.far)))) (⟨(rfl : (⟨bb, 0, u.map byteV, cb⟩ : Blk) :: ⟨b5, 0, (((words l).take i).map valW).map u32V ++ u32V (valW ([] : List UInt8)) :: List.replicate (5 - i) (Value.int .u32 0), 6⟩ :: ⟨b, 0, (words l).map strV, (words l).length⟩ :: ⟨b2, 0, ([.int .u32 0, .int .u32 0, .int .u32 0, .int .u32 0, .int .u32 0, .int .u32 0] : List Value), 6⟩ :: [] = _), Nat.zero_le _⟩) ?_
          rintro k e_ L ⟨rfl, hk⟩
          refine T.seq ?_
          refine T.region ?_
          refine TL.cons rfl (T1.ltI_split rfl rfl (fun h11 => ?_) (fun h11 => ?_))
          ·
            try simp only [bstr_size] at h11
            obtain ⟨x, hx⟩ : ∃ x, u[k]? = some x := ⟨_, List.getElem?_eq_getElem (by omega)⟩
            have hdx := dig_range (hdu x (List.mem_of_getElem? hx))
            have hv1 := valW_take hx
            have hvl := valW_lt (w := u.take (k + 1)) (by rw [List.length_take]; omega) (fun y hy => hdu y (List.mem_of_mem_take hy))
            refine TL.nil ?_
            refine T.seq ?_
            refine T.cond_t rfl ?_
            refine T.skip ?_
            refine T.seq ?_
            refine T.block ?_
            refine T.seq ?_
            refine T.region ?_
            refine TL.cons rfl (V1.t (V1.indexAddrS ty_34 sz_5 rfl rfl (by omega) (by rw [bstr_size]; omega)) ?_)
            refine TL.cons rfl (V1.t (V1.load1 one_5 rfl (show Rd _ _ ⟨bb, 0 + k * 1, none⟩ (byteV x) from by rw [Nat.mul_one]; exact Rd.at (cells := u.map byteV) (by repeat (first | exact Find.here | assumption | apply Find.there | apply Find.far)) (by rw [List.getElem?_map, hx]; rfl))) ?_)
            refine TL.cons rfl (V1.t (V1.assign' (by (conv => lhs; whnf) <;> rfl)) ?_)
            refine TL.nil ?_
            refine T.region ?_
            refine TL.cons rfl (V1.t (V1.move' (by (conv => lhs; whnf) <;> rfl)) ?_)
            refine TL.cons rfl (V1.t (V1.move' (by (conv => lhs; whnf) <;> rfl)) ?_)
            refine TL.cons rfl (V1.t (V1.indexAddrA ty_24 sz_22 rfl rfl (by omega) (by omega)) ?_)
            refine TL.cons rfl (V1.t (V1.load1 one_22 rfl (show Rd _ _ ⟨b5, 0 + i * 1, none⟩ (u32V (valW (u.take k))) from by rw [Nat.mul_one]; exact Rd.at (cells := (((words l).take i).map valW).map u32V ++ u32V (valW (u.take k)) :: List.replicate (5 - i) (Value.int .u32 0)) (by repeat (first | exact Find.here | assumption | apply Find.there | apply Find.far)) (by rw [List.getElem?_append_right (by rw [List.length_map]; omega), List.length_map, hA, Nat.sub_self]; rfl))) ?_)
            refine TL.cons rfl (V1.t (V1.mul (c := ((10 * valW (u.take k) : Nat) : Int)) rfl rfl (by rw [wrap_u32 _ (by omega) (by omega)]; omega)) ?_)
            refine TL.cons rfl (V1.t (V1.move' (by (conv => lhs; whnf) <;> rfl)) ?_)
            refine TL.cons rfl (V1.t (V1.sub (c := ((x.toNat - 48 : Nat) : Int)) rfl rfl (by rw [wrap_u8 _ (by omega) (by omega)]; omega)) ?_)
            refine TL.cons rfl (V1.t (V1.conv (c := ((x.toNat - 48 : Nat) : Int)) ty_5 ty_22 rfl (wrap_u32 _ (by omega) (by omega))) ?_)
            refine TL.cons rfl (V1.t (V1.add (c := ((valW (u.take (k + 1)) : Nat) : Int)) rfl rfl (by rw [wrap_u32 _ (by omega) (by omega)]; omega)) ?_)
            refine TL.cons rfl (V1.t (V1.indexAddrA ty_24 sz_22 rfl rfl (by omega) (by omega)) ?_)
            refine TL.cons rfl (T1.storeE (o := 0 + i * 1) (v := u32V (valW (u.take (k + 1)))) (cells := (((words l).take i).map valW).map u32V ++ u32V (valW (u.take k)) :: List.replicate (5 - i) (Value.int .u32 0)) (cells' := (((words l).take i).map valW).map u32V ++ u32V (valW (u.take (k + 1))) :: List.replicate (5 - i) (Value.int .u32 0)) rfl rfl sz_22 rfl (by rw [show 0 + i * 1 - 0 = i from by omega]; exact u32_set hA) (by repeat (first | exact Sub.one | apply Sub.there | apply Sub.far)) (Nat.zero_le _) (by rw [List.length_append, List.length_map, hA, List.length_cons]; omega) ?_)
            refine TL.nil ?_
            refine T.live (l := [(2, _), (5, _), (6, _), (16, _), (17, _), (18, _), (33, _), (34, _), (35, _)]) (.cons (by (conv => lhs; whnf) <;> rfl) (.cons (by (conv => lhs; whnf) <;> rfl) (.cons (by (conv => lhs; whnf) <;> rfl) (.cons (by (conv => lhs; whnf) <;> rfl) (.cons (by (conv => lhs; whnf) <;> rfl) (.cons (by (conv => lhs; whnf) <;> rfl) (.cons (by (conv => lhs; whnf) <;> rfl) (.cons (by (conv => lhs; whnf) <;> rfl) (.cons (by (conv => lhs; whnf) <;> rfl) .nil))))))))) (fun e_ => ?_)
            refine T.region ?_
            refine TL.cons rfl (V1.t (V1.add rfl rfl (wrap_i64 _ (by omega) (by omega))) ?_)
            refine TL.cons rfl (V1.t (V1.move' (by (conv => lhs; whnf) <;> rfl)) ?_)
            refine TL.nil ?_
            exact ⟨k + 1, _, _, (by simp only; omega), (.cons rfl .nil), (.cons rfl (.cons rfl (.cons rfl (.cons rfl (.cons rfl (.cons rfl (.cons rfl (.cons rfl .nil)))))))), (by repeat (first | exact Take.nil | apply Take.one (by repeat (first | exact Pick.here | apply Pick.there | apply Pick.far)) | apply Take.seg (by repeat (first | exact PickS.last | exact PickS.one | exact PickS.here | exact PickS.nil | apply PickS.there | apply PickS.far)) | exact Take.last (by repeat (first | exact PickS.last | exact PickS.one | exact PickS.here | exact PickS.nil | apply PickS.there | apply PickS.far)))), ⟨rfl, by omega⟩⟩
          ·
            try simp only [bstr_size] at h11
            obtain rfl : k = 5 := by omega
            rw [show u.take 5 = u from List.take_of_length_le (by omega), groups_close]
            have hcl : ((words l).take i).map valW ++ [valW u] = ((words l).take (i + 1)).map valW := by rw [List.take_add_one, hu, List.map_append]; rfl
            rw [hcl]
            refine TL.nil ?_
            refine T.seq ?_
            refine T.cond_f rfl ?_
            refine T.exit ?_
            refine T.region ?_
            refine TL.cons rfl (V1.t (V1.add rfl rfl (wrap_i64 _ (by omega) (by omega))) ?_)
            refine TL.cons rfl (V1.t (V1.move' (by (conv => lhs; whnf) <;> rfl)) ?_)
            refine TL.nil ?_
            rw [show 5 - i = 6 - (i + 1) from by omega]
            exact ⟨i + 1, _, _, (by simp only; omega), (.cons rfl .nil), (.cons rfl (.cons rfl (.cons rfl (.cons rfl .nil)))), (by repeat (first | exact Take.nil | apply Take.one (by repeat (first | exact Pick.here | apply Pick.there | apply Pick.far)) | apply Take.seg (by repeat (first | exact PickS.last | exact PickS.one | exact PickS.here | exact PickS.nil | apply PickS.there | apply PickS.far)) | exact Take.last (by repeat (first | exact PickS.last | exact PickS.one | exact PickS.here | exact PickS.nil | apply PickS.there | apply PickS.far)))), ⟨rfl, by omega, fun y hy => by rw [List.take_add_one, hu] at hy; rcases List.mem_append.1 hy with hy | hy; exact hgd y hy; (simp at hy; rw [hy]; exact hgu)⟩⟩
    ·
      try simp only at h6_
      obtain rfl : i = 6 := by omega
      rw [List.take_of_length_le (by omega)] at hgd
      have hp := parse_some h6 hgd
      rw [show ((words l).take 6).map valW = (words l).map valW from by rw [List.take_of_length_le (by omega)], Nat.sub_self, List.replicate_zero, List.append_nil]
      refine TL.nil ?_
      refine T.seq ?_
      refine T.cond_f rfl ?_
      refine T.exit ?_
      refine T.seq ?_
      refine T.region ?_
      refine TL.cons rfl (V1.t (V1.loadN (vs := ((words l).map valW).map u32V) one_24 sz_24 rfl (RdN.whole (by repeat (first | exact Find.here | assumption | apply Find.there | apply Find.far))) (by rw [List.length_map, List.length_map]; exact h6)) ?_)
      refine TL.cons rfl (T1.storeN (vs := ((words l).map valW).map u32V) rfl rfl sz_24 (ones_u32 _) (by repeat (first | exact Sub.one | apply Sub.there | apply Sub.far)) (by rw [List.length_map, List.length_map]; exact h6) (by rw [List.length_map, List.length_map]; exact h6) ?_)
      refine TL.cons rfl (V1.t (V1.assign' (by (conv => lhs; whnf) <;> rfl)) ?_)
      refine TL.nil ?_
      refine T.ret ?_
      exact ⟨_, [], _, .cons (.cellN (by (conv => lhs; whnf) <;> rfl) one_24 sz_24 (RdN.whole (cells := ((words l).map valW).map u32V) (by repeat (first | exact Find.here | assumption | apply Find.there | apply Find.far))) (by rw [List.length_map, List.length_map]; exact h6)) (.cons (.tmp (by (conv => lhs; whnf) <;> rfl)) .nil), Take.nil, rfl, by rw [hp]; rfl⟩

set_option maxRecDepth 100000 in
set_option maxHeartbeats 2000000 in
theorem refParse_any (l : List UInt8) (w : World) : Fn P 7 [.string (bstr l)] w [] (fun v Y => Y = [] ∧ v = prsV (parseW (words l))) := by
  refine Fn.of 48 [.cell 2 23, .tmp 3] Go.Proofs.Tryd.func7 rfl rfl rfl rfl ?_
  refine T.seq ?_
  refine T.region ?_
  refine TL.cons rfl (T1.allocN 6 zr_23 rfl (fun b2 => ?_))
  refine TL.cons rfl (V1.t (V1.assign' (by (conv => lhs; whnf) <;> rfl)) ?_)
  refine TL.nil ?_
  refine T.seq ?_
  refine T.region ?_
  refine TL.cons rfl (T1.allocN 6 zr_23 rfl (fun b4 => ?_))
  refine TL.nil ?_
  refine T.seq ?_
  refine T.seq ?_
  refine T.region ?_
  refine TL.cons rfl (V1.t (V1.move' (by (conv => lhs; whnf) <;> rfl)) ?_)
  refine TL.cons rfl (V1.t (V1.lenS ty_9 rfl) ?_)
  refine TL.cons rfl (T1.neI_split rfl rfl (fun h2 => ?_) (fun h2 => ?_))
  ·
    rw [bstr_size] at h2
    have hp : parseW (words l) = none := parse_no (fun hh => by have := hh.1; omega)
    refine TL.nil ?_
    refine T.cond_t rfl ?_
    refine T.seq ?_
    refine T.region ?_
    refine TL.cons rfl (V1.t (V1.loadN (vs := ([.int .u32 0, .int .u32 0, .int .u32 0, .int .u32 0, .int .u32 0, .int .u32 0] : List Value)) one_23 sz_23 rfl (RdN.whole (by repeat (first | exact Find.here | assumption | apply Find.there | apply Find.far))) (by rfl)) ?_)
    refine TL.cons rfl (T1.storeN (vs := ([.int .u32 0, .int .u32 0, .int .u32 0, .int .u32 0, .int .u32 0, .int .u32 0] : List Value)) rfl rfl sz_23 (ones rfl) (by repeat (first | exact Sub.one | apply Sub.there | apply Sub.far)) (by rfl) (by rfl) ?_)
    refine TL.cons rfl (V1.t (V1.assign' (by (conv => lhs; whnf) <;> rfl)) ?_)
    refine TL.nil ?_
    refine T.ret ?_
    exact ⟨_, [], _, .cons (.cellN (by (conv => lhs; whnf) <;> rfl) one_23 sz_23 (RdN.whole (cells := ([.int .u32 0, .int .u32 0, .int .u32 0, .int .u32 0, .int .u32 0, .int .u32 0] : List Value)) (by repeat (first | exact Find.here | assumption | apply Find.there | apply Find.far))) (by rfl)) (.cons (.tmp (by (conv => lhs; whnf) <;> rfl)) .nil), Take.nil, rfl, by rw [hp]; rfl⟩
  ·
    rw [bstr_size] at h2
    have hl35 : l.length = 35 := by omega
    refine TL.nil ?_
    refine T.cond_f rfl ?_
    refine T.skip ?_
    refine T.seq ?_
    refine T.seq ?_
    refine T.region ?_
    refine TL.cons rfl (V1.t (V1.assign' (by (conv => lhs; whnf) <;> rfl)) ?_)
    refine TL.nil ?_
    refine T.block ?_
    refine T.loopL (σ := Nat) (l0 := [(0, _), (2, _), (4, _)]) (fun x => [(5, .int .i64 (x : Nat))]) (fun i L => L = ⟨b4, 0, (groupsAt l i).map u32V, 6⟩ :: ⟨b2, 0, ([.int .u32 0, .int .u32 0, .int .u32 0, .int .u32 0, .int .u32 0, .int .u32 0] : List Value), 6⟩ :: [] ∧ i ≤ 35 ∧ (∀ j, j < i → okAt l j)) (fun x => 35 - x) 0 (.cons rfl .nil) (.cons (by (conv => lhs; whnf) <;> rfl) (.cons (by (conv => lhs; whnf) <;> rfl) (.cons (by (conv => lhs; whnf) <;> rfl) .nil))) (by repeat (first | exact Take.nil | apply Take.one (by repeat (first | exact Pick.here | apply Pick.there | apply Pick.far)) | apply Take.seg (by repeat (first | exact PickS.last | exact PickS.one | exact PickS.here | exact PickS.nil | apply PickS.there | apply PickS.far)) | exact Take.last (by repeat (first | exact PickS.last | exact PickS.one | exact PickS.here | exact PickS.nil | apply PickS.there | apply PickS.far)))) (⟨(show (⟨b4, 0, ([.int .u32 0, .int .u32 0, .int .u32 0, .int .u32 0, .int .u32 0, .int .u32 0] : List Value), 6⟩ : Blk) :: ⟨b2, 0, ([.int .u32 0, .int .u32 0, .int .u32 0, .int .u32 0, .int .u32 0, .int .u32 0] : List Value), 6⟩ :: [] = _ by rw [groupsAt_zero]; rfl), Nat.zero_le _, fun j hj => absurd hj (Nat.not_lt_zero _)⟩) ?_
    rintro i e_ L ⟨rfl, hi, hok⟩
    refine T.seq ?_
    refine T.seq ?_
    refine T.region ?_
    refine TL.cons rfl (V1.t (V1.move' (by (conv => lhs; whnf) <;> rfl)) ?_)
    refine TL.cons rfl (T1.ltI_split rfl rfl (fun h5 => ?_) (fun h5 => ?_))
    ·
      try simp only at h5
      obtain ⟨x, hx⟩ : ∃ x, l[i]? = some x := ⟨_, List.getElem?_eq_getElem (by omega)⟩
      have hx8 := x.toNat_lt
      refine TL.nil ?_
      refine T.cond_t rfl ?_
      refine T.skip ?_
      refine T.seq ?_
      refine T.block ?_
      refine T.seq ?_
      refine T.seq ?_
      refine T.region ?_
      refine TL.cons rfl (V1.t (V1.move' (by (conv => lhs; whnf) <;> rfl)) ?_)
      refine TL.cons rfl (V1.t (V1.rem (c := ((i % 6 : Nat) : Int)) rfl rfl (by decide) ((Int.ofNat_tmod _ 6).symm)) ?_)
      refine TL.cons rfl (T1.eqI_split rfl rfl (fun h7 => ?_) (fun h7 => ?_))
      ·
        have hi6 : i % 6 = 5 := by omega
        refine TL.nil ?_
        refine T.cond_t rfl ?_
        refine T.seq ?_
        refine T.seq ?_
        refine T.region ?_
        refine TL.cons rfl (V1.t (V1.move' (by (conv => lhs; whnf) <;> rfl)) ?_)
        refine TL.cons rfl (V1.t (V1.move' (by (conv => lhs; whnf) <;> rfl)) ?_)
        refine TL.cons rfl (V1.t (V1.indexStr (s := bstr l) (c := x) ty_9 rfl rfl (by omega) (by rw [Int.toNat_natCast]; exact bstr_get hx)) ?_)
        refine TL.cons rfl (T1.neI_split rfl rfl (fun h8 => ?_) (fun h8 => ?_))
        ·
          have hp : parseW (words l) = none := parse_no (fun hh => by obtain ⟨y, hy, hy2⟩ := hh.2 i (by omega); rw [if_pos hi6] at hy2; rw [hx] at hy; obtain rfl := Option.some.inj hy; rw [hy2] at h8; exact h8 rfl)
          refine TL.nil ?_
          refine T.cond_t rfl ?_
          refine T.seq ?_
          refine T.region ?_
          refine TL.cons rfl (V1.t (V1.buildA0 ty_23 sz_22 zr_23) ?_)
          refine TL.cons rfl (T1.storeN (vs := ([.int .u32 0, .int .u32 0, .int .u32 0, .int .u32 0, .int .u32 0, .int .u32 0] : List Value)) rfl rfl sz_23 (ones rfl) (by repeat (first | exact Sub.one | apply Sub.there | apply Sub.far)) (by rfl) (by rfl) ?_)
          refine TL.cons rfl (V1.t (V1.assign' (by (conv => lhs; whnf) <;> rfl)) ?_)
          refine TL.nil ?_
          refine T.ret ?_
          exact ⟨_, [], _, .cons (.cellN (by (conv => lhs; whnf) <;> rfl) one_23 sz_23 (RdN.whole (cells := ([.int .u32 0, .int .u32 0, .int .u32 0, .int .u32 0, .int .u32 0, .int .u32 0] : List Value)) (by repeat (first | exact Find.here | assumption | apply Find.there | apply Find.far))) (by rfl)) (.cons (.tmp (by (conv => lhs; whnf) <;> rfl)) .nil), Take.nil, rfl, by rw [hp]; rfl⟩
        ·
          have hx32 : x = 32 := by apply UInt8.toNat_inj.1; show x.toNat = 32; omega
          have hoki : okAt l i := ⟨x, hx, by rw [if_pos hi6]; exact hx32⟩
          have hgs : groupsAt l (i + 1) = groupsAt l i := groupsAt_blank hi6
          refine TL.nil ?_
          refine T.cond_f rfl ?_
          refine T.skip ?_
          refine T.exit ?_
          refine T.region ?_
          refine TL.cons rfl (V1.t (V1.move' (by (conv => lhs; whnf) <;> rfl)) ?_)
          refine TL.cons rfl (V1.t (V1.add rfl rfl (wrap_i64 _ (by omega) (by omega))) ?_)
          refine TL.cons rfl (V1.t (V1.assign' (by (conv => lhs; whnf) <;> rfl)) ?_)
          refine TL.nil ?_
          exact ⟨i + 1, _, _, (by simp only; omega), (.cons rfl .nil), (.cons rfl (.cons rfl (.cons rfl .nil))), (by repeat (first | exact Take.nil | apply Take.one (by repeat (first | exact Pick.here | apply Pick.there | apply Pick.far)) | apply Take.seg (by repeat (first | exact PickS.last | exact PickS.one | exact PickS.here | exact PickS.nil | apply PickS.there | apply PickS.far)) | exact Take.last (by repeat (first | exact PickS.last | exact PickS.one | exact PickS.here | exact PickS.nil | apply PickS.there | apply PickS.far)))), ⟨(show (⟨b4, 0, (groupsAt l i).map u32V, 6⟩ : Blk) :: ⟨b2, 0, ([.int .u32 0, .int .u32 0, .int .u32 0, .int .u32 0, .int .u32 0, .int .u32 0] : List Value), 6⟩ :: [] = _ by rw [hgs]), by omega, fun j hj => by rcases Nat.lt_or_ge j i with h | h; exact hok j h; (obtain rfl : j = i := by omega); exact hoki⟩⟩
      ·
        have hi6 : i % 6 ≠ 5 := by omega
        refine TL.nil ?_
        refine T.cond_f rfl ?_
        refine T.skip ?_
        refine T.seq ?_
        refine T.seq ?_
        refine T.region ?_
        refine TL.cons rfl (V1.t (V1.move' (by (conv => lhs; whnf) <;> rfl)) ?_)
        refine TL.cons rfl (V1.t (V1.move' (by (conv => lhs; whnf) <;> rfl)) ?_)
        refine TL.cons rfl (V1.t (V1.indexStr (s := bstr l) (c := x) ty_9 rfl rfl (by omega) (by rw [Int.toNat_natCast]; exact bstr_get hx)) ?_)
        refine TL.cons rfl (T1.ltI_split rfl rfl (fun h10 => ?_) (fun h10 => ?_))
        ·
          have hp : parseW (words l) = none := parse_no (fun hh => by obtain ⟨y, hy, hy2⟩ := hh.2 i (by omega); rw [if_neg hi6] at hy2; rw [hx] at hy; obtain rfl := Option.some.inj hy; have := dig_range hy2; omega)
          refine TL.cons rfl (V1.t (V1.move' (by (conv => lhs; whnf) <;> rfl)) ?_)
          refine TL.no rfl ?_
          refine TL.no rfl ?_
          refine TL.no rfl ?_
          refine TL.no rfl ?_
          refine TL.cons rfl (V1.t (V1.pick rfl (by (conv => lhs; whnf) <;> rfl)) ?_)
          refine TL.nil ?_
          refine T.cond_t rfl ?_
          refine T.seq ?_
          refine T.live (l := [(2, _)]) (.cons (by (conv => lhs; whnf) <;> rfl) .nil) (fun e_ => ?_)
          refine T.region ?_
          refine TL.cons rfl (V1.t (V1.buildA0 ty_23 sz_22 zr_23) ?_)
          refine TL.cons rfl (T1.storeN (vs := ([.int .u32 0, .int .u32 0, .int .u32 0, .int .u32 0, .int .u32 0, .int .u32 0] : List Value)) rfl rfl sz_23 (ones rfl) (by repeat (first | exact Sub.one | apply Sub.there | apply Sub.far)) (by rfl) (by rfl) ?_)
          refine TL.cons rfl (V1.t (V1.assign' (by (conv => lhs; whnf) <;> rfl)) ?_)
          refine TL.nil ?_
          refine T.ret ?_
          exact ⟨_, [], _, .cons (.cellN (by (conv => lhs; whnf) <;> rfl) one_23 sz_23 (RdN.whole (cells := ([.int .u32 0, .int .u32 0, .int .u32 0, .int .u32 0, .int .u32 0, .int .u32 0] : List Value)) (by repeat (first | exact Find.here | assumption | apply Find.there | apply Find.far))) (by rfl)) (.cons (.tmp (by (conv => lhs; whnf) <;> rfl)) .nil), Take.nil, rfl, by rw [hp]; rfl⟩
        ·
          refine TL.cons rfl (V1.t (V1.move' (by (conv => lhs; whnf) <;> rfl)) ?_)
          refine TL.cons rfl (V1.t (V1.move' (by (conv => lhs; whnf) <;> rfl)) ?_)
          refine TL.cons rfl (V1.t (V1.move' (by (conv => lhs; whnf) <;> rfl)) ?_)
          refine TL.cons rfl (V1.t (V1.indexStr (s := bstr l) (c := x) ty_9 rfl rfl (by omega) (by rw [Int.toNat_natCast]; exact bstr_get hx)) ?_)
          refine TL.cons rfl (T1.gtI_split rfl rfl (fun h10b => ?_) (fun h10b => ?_))
          ·
            have hp : parseW (words l) = none := parse_no (fun hh => by obtain ⟨y, hy, hy2⟩ := hh.2 i (by omega); rw [if_neg hi6] at hy2; rw [hx] at hy; obtain rfl := Option.some.inj hy; have := dig_range hy2; omega)
            refine TL.cons rfl (V1.t (V1.pick rfl (by (conv => lhs; whnf) <;> rfl)) ?_)
            refine TL.nil ?_
            refine T.cond_t rfl ?_
            refine T.seq ?_
            refine T.live (l := [(2, _)]) (.cons (by (conv => lhs; whnf) <;> rfl) .nil) (fun e_ => ?_)
            refine T.region ?_
            refine TL.cons rfl (V1.t (V1.buildA0 ty_23 sz_22 zr_23) ?_)
            refine TL.cons rfl (T1.storeN (vs := ([.int .u32 0, .int .u32 0, .int .u32 0, .int .u32 0, .int .u32 0, .int .u32 0] : List Value)) rfl rfl sz_23 (ones rfl) (by repeat (first | exact Sub.one | apply Sub.there | apply Sub.far)) (by rfl) (by rfl) ?_)
            refine TL.cons rfl (V1.t (V1.assign' (by (conv => lhs; whnf) <;> rfl)) ?_)
            refine TL.nil ?_
            refine T.ret ?_
            exact ⟨_, [], _, .cons (.cellN (by (conv => lhs; whnf) <;> rfl) one_23 sz_23 (RdN.whole (cells := ([.int .u32 0, .int .u32 0, .int .u32 0, .int .u32 0, .int .u32 0, .int .u32 0] : List Value)) (by repeat (first | exact Find.here | assumption | apply Find.there | apply Find.far))) (by rfl)) (.cons (.tmp (by (conv => lhs; whnf) <;> rfl)) .nil), Take.nil, rfl, by rw [hp]; rfl⟩
          ·
            have hdx : digitB x = true := by unfold digitB; exact decide_eq_true (by omega)
            have hoki : okAt l i := ⟨x, hx, by rw [if_neg hi6]; exact hdx⟩
            have hij : i / 6 < 6 := by omega
            obtain ⟨v, hv⟩ : ∃ v, (groupsAt l i)[i / 6]? = some v := ⟨_, groupsAt_get l i hij⟩
            have hgs := groupsAt_step hi6 (by omega) hx hv
            have hvl := groupsAt_lt (l := l) (i := i) (by omega) hok v (List.mem_of_getElem? hv)
            have hgl := groupsAt_len l i
            refine TL.cons rfl (V1.t (V1.pick rfl (by (conv => lhs; whnf) <;> rfl)) ?_)
            refine TL.nil ?_
            refine T.cond_f rfl ?_
            refine T.skip ?_
            refine T.live (l := [(0, _), (2, _), (4, _), (5, _)]) (.cons (by (conv => lhs; whnf) <;> rfl) (.cons (by (conv => lhs; whnf) <;> rfl) (.cons (by (conv => lhs; whnf) <;> rfl) (.cons (by (conv => lhs; whnf) <;> rfl) .nil)))) (fun e_ => ?_)
            refine T.drawTail 14 mixed (by decide +kernel) (by rfl) (by decide +kernel) rfl ?_
            refine Det.cons 0 (ins := [(5, _)]) (.old (by (conv => lhs; whnf) <;> rfl) (by decide +kernel) .nil) (fun e_ => .inl ⟨rfl, V1.t (V1.move' (by (conv => lhs; whnf) <;> rfl)) ⟨rfl, rfl⟩⟩) ?_
            refine Det.cons 1 (ins := [(33, _)]) (.new 0 0 (by decide +kernel) rfl rfl .nil) (fun e_ => .inl ⟨rfl, V1.t (V1.quo (c := ((i / 6 : Nat) : Int)) rfl rfl (by decide) (by rw [show ((i : Int).tdiv 6) = ((i / 6 : Nat) : Int) from (Int.ofNat_tdiv _ 6).symm]; exact wrap_i64 _ (by omega) (by omega))) ⟨rfl, rfl⟩⟩) ?_
            refine Det.cons 2 (ins := [(5, _)]) (.old (by (conv => lhs; whnf) <;> rfl) (by decide +kernel) .nil) (fun e_ => .inl ⟨rfl, V1.t (V1.move' (by (conv => lhs; whnf) <;> rfl)) ⟨rfl, rfl⟩⟩) ?_
            refine Det.cons 3 (ins := [(35, _)]) (.new 2 0 (by decide +kernel) rfl rfl .nil) (fun e_ => .inl ⟨rfl, V1.t (V1.quo (c := ((i / 6 : Nat) : Int)) rfl rfl (by decide) (by rw [show ((i : Int).tdiv 6) = ((i / 6 : Nat) : Int) from (Int.ofNat_tdiv _ 6).symm]; exact wrap_i64 _ (by omega) (by omega))) ⟨rfl, rfl⟩⟩) ?_
            refine Det.cons 4 (ins := [(4, _), (36, _)]) (.old (by (conv => lhs; whnf) <;> rfl) (by decide +kernel) (.new 3 0 (by decide +kernel) rfl rfl .nil)) (fun e_ => .inl ⟨rfl, V1.t (V1.indexAddrA ty_23 sz_22 rfl rfl (by omega) (by omega)) ⟨rfl, rfl⟩⟩) ?_
            refine Det.cons 5 (ins := [(37, _)]) (.new 4 0 (by decide +kernel) rfl rfl .nil) (fun e_ => .inl ⟨rfl, V1.t (V1.load1 one_22 rfl (show Rd _ _ ⟨b4, 0 + (i / 6) * 1, none⟩ (u32V v) from by rw [Nat.mul_one]; exact Rd.at (cells := (groupsAt l i).map u32V) (by repeat (first | exact Find.here | assumption | apply Find.there | apply Find.far)) (by rw [List.getElem?_map, hv]; rfl))) ⟨rfl, rfl⟩⟩) ?_
            refine Det.cons 6 (ins := [(38, _)]) (.new 5 0 (by decide +kernel) rfl rfl .nil) (fun e_ => .inl ⟨rfl, V1.t (V1.mul (c := ((10 * v : Nat) : Int)) rfl rfl (by rw [wrap_u32 _ (by omega) (by omega)]; omega)) ⟨rfl, rfl⟩⟩) ?_
            refine Det.cons 7 (ins := [(0, _)]) (.old (by (conv => lhs; whnf) <;> rfl) (by decide +kernel) .nil) (fun e_ => .inl ⟨rfl, V1.t (V1.move' (by (conv => lhs; whnf) <;> rfl)) ⟨rfl, rfl⟩⟩) ?_
            refine Det.cons 8 (ins := [(5, _)]) (.old (by (conv => lhs; whnf) <;> rfl) (by decide +kernel) .nil) (fun e_ => .inl ⟨rfl, V1.t (V1.move' (by (conv => lhs; whnf) <;> rfl)) ⟨rfl, rfl⟩⟩) ?_
            refine Det.cons 9 (ins := [(40, _), (41, _)]) (.new 7 1 (by decide +kernel) rfl rfl (.new 8 0 (by decide +kernel) rfl rfl .nil)) (fun e_ => .inl ⟨rfl, V1.t (V1.indexStr (s := bstr l) (c := x) ty_9 rfl rfl (by omega) (by rw [Int.toNat_natCast]; exact bstr_get hx)) ⟨rfl, rfl⟩⟩) ?_
            refine Det.cons 10 (ins := [(42, _)]) (.new 9 0 (by decide +kernel) rfl rfl .nil) (fun e_ => .inl ⟨rfl, V1.t (V1.sub (c := ((x.toNat - 48 : Nat) : Int)) rfl rfl (by rw [wrap_u8 _ (by omega) (by omega)]; omega)) ⟨rfl, rfl⟩⟩) ?_
            refine Det.cons 11 (ins := [(43, _)]) (.new 10 0 (by decide +kernel) rfl rfl .nil) (fun e_ => .inl ⟨rfl, V1.t (V1.conv (c := ((x.toNat - 48 : Nat) : Int)) ty_5 ty_22 rfl (wrap_u32 _ (by omega) (by omega))) ⟨rfl, rfl⟩⟩) ?_
            refine Det.cons 12 (ins := [(39, _), (44, _)]) (.new 6 5 (by decide +kernel) rfl rfl (.new 11 0 (by decide +kernel) rfl rfl .nil)) (fun e_ => .inl ⟨rfl, V1.t (V1.add (c := ((10 * v + (x.toNat - 48) : Nat) : Int)) rfl rfl (by rw [wrap_u32 _ (by omega) (by omega)]; omega)) ⟨rfl, rfl⟩⟩) ?_
            refine Det.cons 13 (ins := [(4, _), (34, _)]) (.old (by (conv => lhs; whnf) <;> rfl) (by decide +kernel) (.new 1 11 (by decide +kernel) rfl rfl .nil)) (fun e_ => .inl ⟨rfl, V1.t (V1.indexAddrA ty_23 sz_22 rfl rfl (by omega) (by omega)) ⟨rfl, rfl⟩⟩) ?_
            refine Det.nil 14 (l := [(0, _), (2, _), (4, _), (5, _), (45, _), (46, _)]) (.old (by (conv => lhs; whnf) <;> rfl) (by decide +kernel) (.old (by (conv => lhs; whnf) <;> rfl) (by decide +kernel) (.old (by (conv => lhs; whnf) <;> rfl) (by decide +kernel) (.old (by (conv => lhs; whnf) <;> rfl) (by decide +kernel) (.new 12 1 (by decide +kernel) rfl rfl (.new 13 0 (by decide +kernel) rfl rfl .nil)))))) (fun e_ => ?_)
            refine (show TU _ _ _ 1 _ _ _ from ?_)
            refine TU.one 14 (by decide +kernel) rfl rfl (T1.storeE (o := 0 + (i / 6) * 1) (v := u32V (10 * v + (x.toNat - 48))) (cells := (groupsAt l i).map u32V) (cells' := (groupsAt l (i + 1)).map u32V) rfl rfl sz_22 rfl (by rw [show 0 + i / 6 * 1 - 0 = i / 6 from by omega, hgs, ← List.map_set]) (by repeat (first | exact Sub.one | apply Sub.there | apply Sub.far)) (Nat.zero_le _) (by rw [List.length_map, hgl]; omega) ?_)
            refine TU.done (by decide +kernel) ?_
            refine T.region ?_
            refine TL.cons rfl (V1.t (V1.move' (by (conv => lhs; whnf) <;> rfl)) ?_)
            refine TL.cons rfl (V1.t (V1.add rfl rfl (wrap_i64 _ (by omega) (by omega))) ?_)
            refine TL.cons rfl (V1.t (V1.assign' (by (conv => lhs; whnf) <;> rfl)) ?_)
            refine TL.nil ?_
            exact ⟨i + 1, _, _, (by simp only; omega), (.cons rfl .nil), (.cons rfl (.cons rfl (.cons rfl .nil))), (by repeat (first | exact Take.nil | apply Take.one (by repeat (first | exact Pick.here | apply Pick.there | apply Pick.far)) | apply Take.seg (by repeat (first | exact PickS.last | exact PickS.one | exact PickS.here | exact PickS.nil | apply PickS.there | apply PickS.far)) | exact Take.last (by repeat (first | exact PickS.last | exact PickS.one | exact PickS.here | exact PickS.nil | apply PickS.there | apply PickS.far)))), ⟨rfl, by omega, fun j hj => by rcases Nat.lt_or_ge j i with h | h; exact hok j h; (obtain rfl : j = i := by omega); exact hoki⟩⟩
    ·
      try simp only at h5
      obtain rfl : i = 35 := by omega
      have hp := parse_ok hl35 hok
      have hgl := groupsAt_len l 35
      refine TL.nil ?_
      refine T.cond_f rfl ?_
      refine T.exit ?_
      refine T.seq ?_
      refine T.region ?_
      refine TL.cons rfl (V1.t (V1.loadN (vs := (groupsAt l 35).map u32V) one_23 sz_23 rfl (RdN.whole (by repeat (first | exact Find.here | assumption | apply Find.there | apply Find.far))) (by rw [List.length_map]; exact hgl)) ?_)
      refine TL.cons rfl (T1.storeN (vs := (groupsAt l 35).map u32V) rfl rfl sz_23 (ones_u32 _) (by repeat (first | exact Sub.one | apply Sub.there | apply Sub.far)) (by rw [List.length_map]; exact hgl) (by rw [List.length_map]; exact hgl) ?_)
      refine TL.cons rfl (V1.t (V1.assign' (by (conv => lhs; whnf) <;> rfl)) ?_)
      refine TL.nil ?_
      refine T.ret ?_
      exact ⟨_, [], _, .cons (.cellN (by (conv => lhs; whnf) <;> rfl) one_23 sz_23 (RdN.whole (cells := (groupsAt l 35).map u32V) (by repeat (first | exact Find.here | assumption | apply Find.there | apply Find.far))) (by rw [List.length_map]; exact hgl)) (.cons (.tmp (by (conv => lhs; whnf) <;> rfl)) .nil), Take.nil, rfl, by rw [hp]; rfl⟩

end Go.Proofs.YtdgbckfnamiebaaDoor.S
