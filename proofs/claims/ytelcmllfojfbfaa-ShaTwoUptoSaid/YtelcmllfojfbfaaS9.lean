/- The document's sums; bytes as digits; the laws that both sums are the document's. -/
import Derived.Test.YtelcmllfojfbfaaS5
import Derived.Test.YtelcmllfojfbfaaS8
namespace Go.Proofs.Ytelcmllfojfbfaa.S
open Go.RowKit

open Sh
theorem res_cell {v : Value} : res1 [v] = v := rfl

set_option maxRecDepth 100000 in
set_option maxHeartbeats 2000000 in
theorem refSum256_any (l : List UInt8) (w : World) (hl : l.length ≤ 200000000000000) : Fn P 20 [.string (bstr l)] w [] (fun v Y => Y = [] ∧ v = .agg ((sha T256 l).map byteV).toArray) := by
  refine Fn.of 27 [.cell 2 26] Go.Proofs.Try.func20 rfl rfl rfl rfl ?_
  refine T.seq ?_
  refine T.region ?_
  refine TL.cons rfl (T1.allocN 32 zr_26 rfl (fun b2 => ?_))
  refine TL.nil ?_
  refine T.seq ?_
  refine T.region ?_
  refine TL.cons rfl (V1.t (V1.buildF pl_83 zr_83 (.one rfl (by (conv => lhs; whnf) <;> rfl) rfl (.one rfl (by (conv => lhs; whnf) <;> rfl) rfl (.one rfl (by (conv => lhs; whnf) <;> rfl) rfl .nil))) (by repeat (first | exact FillL.nil | exact SetN.done | apply SetN.here | apply SetN.there | apply FillL.cons))) ?_)
  refine TL.cons rfl (T1.allocN 16 zr_83 rfl (fun b3 => ?_))
  refine TL.cons rfl (T1.storeN rfl rfl sz_83 (ones rfl) (by repeat (first | exact Sub.one | apply Sub.there | apply Sub.far)) (by rfl) (by rfl) ?_)
  refine TL.nil ?_
  refine T.seq ?_
  refine T.region ?_
  refine TL.cons rfl (T1.buildSl1 (os := ((stL (upInit T256.init)).map w64).map Operand.const) (vs := (stL (upInit T256.init)).map w64) ty_80 sz_46 zr_46 (by decide) (by kernel_rfl) (Evs.consts _) rfl (ones rfl) (fun b8 => ?_))
  refine TL.cons rfl (V1.t (V1.fieldAddr fl_83_3 rfl) ?_)
  refine TL.cons rfl (T1.store1 (v := .slice (some ⟨b8, 0, none⟩) 8 8) rfl rfl sz_80 rfl (by repeat (first | exact Sub.one | apply Sub.there | apply Sub.far)) (Nat.zero_le _) (by repeat (first | exact SetAt.here | apply SetAt.there)) ?_)
  refine TL.nil ?_
  refine T.seq ?_
  refine T.region ?_
  refine TL.cons rfl (V1.t (V1.buildFA ty_81 sz_3 zr_81 (.one rfl (by (conv => lhs; whnf) <;> rfl) rfl (.one rfl (by (conv => lhs; whnf) <;> rfl) rfl (.one rfl (by (conv => lhs; whnf) <;> rfl) rfl (.one rfl (by (conv => lhs; whnf) <;> rfl) rfl (.one rfl (by (conv => lhs; whnf) <;> rfl) rfl (.one rfl (by (conv => lhs; whnf) <;> rfl) rfl (.one rfl (by (conv => lhs; whnf) <;> rfl) rfl (.one rfl (by (conv => lhs; whnf) <;> rfl) rfl (.one rfl (by (conv => lhs; whnf) <;> rfl) rfl (.one rfl (by (conv => lhs; whnf) <;> rfl) rfl (.one rfl (by (conv => lhs; whnf) <;> rfl) rfl (.one rfl (by (conv => lhs; whnf) <;> rfl) rfl .nil)))))))))))) (by repeat (first | exact FillL.nil | exact SetN.done | apply SetN.here | apply SetN.there | apply FillL.cons))) ?_)
  refine TL.cons rfl (V1.t (V1.fieldAddr fl_83_4 rfl) ?_)
  refine TL.cons rfl (T1.storeM (vs := [.int .i64 7, .int .i64 18, .int .i64 3, .int .i64 17, .int .i64 19, .int .i64 10, .int .i64 2, .int .i64 13, .int .i64 22, .int .i64 6, .int .i64 11, .int .i64 25]) rfl rfl sz_81 (ones rfl) (by repeat (first | exact Sub.one | apply Sub.there | apply Sub.far)) (by decide) (Nat.le_of_ble_eq_true rfl) (by rfl) ?_)
  refine TL.nil ?_
  refine T.seq ?_
  refine T.region ?_
  refine TL.cons rfl (V1.t (V1.move' (by (conv => lhs; whnf) <;> rfl)) ?_)
  refine TL.cons rfl (V1.t (V1.loadN (vs := [.int .i64 32, .int .i64 64, .int .i64 64, .slice (some ⟨b8, 0, none⟩) 8 8, .int .i64 7, .int .i64 18, .int .i64 3, .int .i64 17, .int .i64 19, .int .i64 10, .int .i64 2, .int .i64 13, .int .i64 22, .int .i64 6, .int .i64 11, .int .i64 25]) one_83 sz_83 rfl (RdN.whole (by repeat (first | exact Find.here | assumption | apply Find.there | apply Find.far))) (by rfl)) ?_)
  refine TL.cons rfl (T1.callX (X := [⟨b8, 0, (stL (upInit T256.init)).map w64, 8⟩]) has_43 rfl (refsum32_any _ b8 l hl) (by repeat (first | exact Take.nil | apply Take.one (by repeat (first | exact Pick.here | apply Pick.there | apply Pick.far)) | apply Take.seg (by repeat (first | exact PickS.last | exact PickS.one | exact PickS.here | exact PickS.nil | apply PickS.there | apply PickS.far)) | exact Take.last (by repeat (first | exact PickS.last | exact PickS.one | exact PickS.here | exact PickS.nil | apply PickS.there | apply PickS.far)))) (fun v Y hY => ?_))
  obtain ⟨Lr, hr, rfl⟩ := hY
  obtain ⟨bo, oo, co, zo, rfl, hco, hzo, rfl⟩ := hr.block (by intro h; have := congrArg List.length h; rw [List.length_map, sha_len] at this; simp at this)
  rw [show ((sha T256 l).map byteV).length = 32 from by rw [List.length_map, sha_len]] at hco ⊢
  dsimp only [List.cons_append, List.nil_append]
  refine TL.cons rfl (V1.t (V1.assign' (by (conv => lhs; whnf) <;> rfl)) ?_)
  refine TL.nil ?_
  refine T.seq ?_
  refine T.region ?_
  refine TL.cons rfl (V1.t (V1.buildA0 ty_26 sz_5 zr_26) ?_)
  refine TL.cons rfl (T1.allocN 32 zr_26 rfl (fun b5 => ?_))
  refine TL.cons rfl (T1.storeN rfl rfl sz_26 (ones rfl) (by repeat (first | exact Sub.one | apply Sub.there | apply Sub.far)) (by rfl) (by rfl) ?_)
  refine TL.nil ?_
  refine T.seq ?_
  refine T.seq ?_
  refine T.live (l := [(2, _), (4, _), (5, _)]) (.cons (by (conv => lhs; whnf) <;> rfl) (.cons (by (conv => lhs; whnf) <;> rfl) (.cons (by (conv => lhs; whnf) <;> rfl) .nil))) (fun e_ => ?_)
  refine T.region ?_
  refine TL.cons rfl (V1.t (V1.assign' (by (conv => lhs; whnf) <;> rfl)) ?_)
  refine TL.nil ?_
  refine T.block ?_
  refine T.loopL (σ := Nat) (l0 := [(2, _), (4, _), (5, _)]) (fun x => [(6, .int .i64 (x : Nat))]) (fun x L => L = ⟨b5, 0, ((sha T256 l).take x).map byteV ++ List.replicate (32 - x) (.int .u8 0), 32⟩ :: ⟨bo, oo, (sha T256 l).map byteV, zo⟩ :: ⟨b2, 0, List.replicate 32 (.int .u8 0), 32⟩ :: [] ∧ x ≤ 32) (fun x => 32 - x) 0 (.cons rfl .nil) (.cons (by (conv => lhs; whnf) <;> rfl) (.cons (by (conv => lhs; whnf) <;> rfl) (.cons (by (conv => lhs; whnf) <;> rfl) .nil))) (by repeat (first | exact Take.nil | apply Take.one (by repeat (first | exact Pick.here | apply Pick.there | apply Pick.far)) | apply Take.seg (by repeat (first | exact PickS.last | exact PickS.one | exact PickS.here | exact PickS.nil | apply PickS.there | apply PickS.far)) | exact Take.last (by repeat (first | exact PickS.last | exact PickS.one | exact PickS.here | exact PickS.nil | apply PickS.there | apply PickS.far)))) (⟨rfl, Nat.zero_le _⟩) ?_
  rintro i e_ L ⟨rfl, hi⟩
  refine T.seq ?_
  refine T.seq ?_
  refine T.region ?_
  refine TL.cons rfl (V1.t (V1.move' (by (conv => lhs; whnf) <;> rfl)) ?_)
  refine TL.cons rfl (T1.ltI_split rfl rfl (fun h7_1 => ?_) (fun h7_1 => ?_))
  ·
    refine TL.nil ?_
    refine T.cond_t rfl ?_
    refine T.skip ?_
    refine T.seq ?_
    refine T.block ?_
    refine T.region ?_
    refine TL.cons rfl (V1.t (V1.move' (by (conv => lhs; whnf) <;> rfl)) ?_)
    refine TL.cons rfl (V1.t (V1.move' (by (conv => lhs; whnf) <;> rfl)) ?_)
    refine TL.cons rfl (V1.t (V1.move' (by (conv => lhs; whnf) <;> rfl)) ?_)
    refine TL.cons rfl (V1.t (V1.indexAddrS ty_22 sz_5 rfl rfl (by omega) (by omega)) ?_)
    refine TL.cons rfl (V1.t (V1.load1 one_5 rfl (show Rd _ _ ⟨bo, oo + i * 1, none⟩ (byteV ((sha T256 l).getD i 0)) from by rw [Nat.mul_one]; exact Rd.at (by repeat (first | exact Find.here | assumption | apply Find.there | apply Find.far)) (by rw [List.getElem?_map, getD_get 0 (by rw [sha_len]; omega)]; rfl))) ?_)
    refine TL.cons rfl (V1.t (V1.indexAddrA ty_26 sz_5 rfl rfl (by omega) (by omega)) ?_)
    refine TL.cons rfl (T1.storeE (o := 0 + i * 1) (cells := ((sha T256 l).take i).map byteV ++ List.replicate (32 - i) (.int .u8 0)) (cells' := ((sha T256 l).take (i + 1)).map byteV ++ List.replicate (32 - (i + 1)) (.int .u8 0)) rfl rfl sz_5 rfl (by rw [show 0 + i * 1 - 0 = i from by omega]; exact fill_set 0 (show (sha T256 l).length = 32 from sha_len _ _) (by omega)) (by repeat (first | exact Sub.one | apply Sub.there | apply Sub.far)) (Nat.zero_le _) (by rw [List.length_append, List.length_map, List.length_take, List.length_replicate, sha_len]; omega) ?_)
    refine TL.nil ?_
    refine T.region ?_
    refine TL.cons rfl (V1.t (V1.move' (by (conv => lhs; whnf) <;> rfl)) ?_)
    refine TL.cons rfl (V1.t (V1.add rfl rfl (wrap_i64 _ (by omega) (by omega))) ?_)
    refine TL.cons rfl (V1.t (V1.assign' (by (conv => lhs; whnf) <;> rfl)) ?_)
    refine TL.nil ?_
    exact ⟨i + 1, _, _, (by simp only; omega), (.cons rfl .nil), (.cons rfl (.cons rfl (.cons rfl .nil))), (by repeat (first | exact Take.nil | apply Take.one (by repeat (first | exact Pick.here | apply Pick.there | apply Pick.far)) | apply Take.seg (by repeat (first | exact PickS.last | exact PickS.one | exact PickS.here | exact PickS.nil | apply PickS.there | apply PickS.far)) | exact Take.last (by repeat (first | exact PickS.last | exact PickS.one | exact PickS.here | exact PickS.nil | apply PickS.there | apply PickS.far)))), ⟨rfl, by omega⟩⟩
  ·
    obtain rfl : i = 32 := by omega
    rw [fill_end (show (sha T256 l).length = 32 from sha_len _ _)]
    refine TL.nil ?_
    refine T.cond_f rfl ?_
    refine T.exit ?_
    refine T.seq ?_
    refine T.region ?_
    refine TL.cons rfl (V1.t (V1.loadN one_26 sz_26 rfl (RdN.whole (by repeat (first | exact Find.here | assumption | apply Find.there | apply Find.far))) (by rw [List.length_map, sha_len])) ?_)
    refine TL.cons rfl (T1.storeN rfl rfl sz_26 (one_bytes _) (by repeat (first | exact Sub.one | apply Sub.there | apply Sub.far)) (by rw [List.length_map, sha_len, List.length_replicate]) (by rw [List.length_map, sha_len]) ?_)
    refine TL.nil ?_
    refine T.ret ?_
    exact ⟨_, [], _, .cons (.cellN (by (conv => lhs; whnf) <;> rfl) one_26 sz_26 (RdN.whole (by repeat (first | exact Find.here | assumption | apply Find.there | apply Find.far))) (by rw [List.length_map, sha_len])) .nil, Take.nil, rfl, rfl⟩

set_option maxRecDepth 100000 in
set_option maxHeartbeats 2000000 in
theorem refSum512_any (l : List UInt8) (w : World) (hl : l.length ≤ 200000000000000) : Fn P 23 [.string (bstr l)] w [] (fun v Y => Y = [] ∧ v = .agg ((sha T512 l).map byteV).toArray) := by
  refine Fn.of 27 [.cell 2 31] Go.Proofs.Try.func23 rfl rfl rfl rfl ?_
  refine T.seq ?_
  refine T.region ?_
  refine TL.cons rfl (T1.allocN 64 zr_31 rfl (fun b2 => ?_))
  refine TL.nil ?_
  refine T.seq ?_
  refine T.region ?_
  refine TL.cons rfl (V1.t (V1.buildF pl_83 zr_83 (.one rfl (by (conv => lhs; whnf) <;> rfl) rfl (.one rfl (by (conv => lhs; whnf) <;> rfl) rfl (.one rfl (by (conv => lhs; whnf) <;> rfl) rfl .nil))) (by repeat (first | exact FillL.nil | exact SetN.done | apply SetN.here | apply SetN.there | apply FillL.cons))) ?_)
  refine TL.cons rfl (T1.allocN 16 zr_83 rfl (fun b3 => ?_))
  refine TL.cons rfl (T1.storeN rfl rfl sz_83 (ones rfl) (by repeat (first | exact Sub.one | apply Sub.there | apply Sub.far)) (by rfl) (by rfl) ?_)
  refine TL.nil ?_
  refine T.seq ?_
  refine T.region ?_
  refine TL.cons rfl (T1.buildSl1 (os := ((stL (upInit T512.init)).map w64).map Operand.const) (vs := (stL (upInit T512.init)).map w64) ty_80 sz_46 zr_46 (by decide) (by kernel_rfl) (Evs.consts _) rfl (ones rfl) (fun b8 => ?_))
  refine TL.cons rfl (V1.t (V1.fieldAddr fl_83_3 rfl) ?_)
  refine TL.cons rfl (T1.store1 (v := .slice (some ⟨b8, 0, none⟩) 8 8) rfl rfl sz_80 rfl (by repeat (first | exact Sub.one | apply Sub.there | apply Sub.far)) (Nat.zero_le _) (by repeat (first | exact SetAt.here | apply SetAt.there)) ?_)
  refine TL.nil ?_
  refine T.seq ?_
  refine T.region ?_
  refine TL.cons rfl (V1.t (V1.buildFA ty_81 sz_3 zr_81 (.one rfl (by (conv => lhs; whnf) <;> rfl) rfl (.one rfl (by (conv => lhs; whnf) <;> rfl) rfl (.one rfl (by (conv => lhs; whnf) <;> rfl) rfl (.one rfl (by (conv => lhs; whnf) <;> rfl) rfl (.one rfl (by (conv => lhs; whnf) <;> rfl) rfl (.one rfl (by (conv => lhs; whnf) <;> rfl) rfl (.one rfl (by (conv => lhs; whnf) <;> rfl) rfl (.one rfl (by (conv => lhs; whnf) <;> rfl) rfl (.one rfl (by (conv => lhs; whnf) <;> rfl) rfl (.one rfl (by (conv => lhs; whnf) <;> rfl) rfl (.one rfl (by (conv => lhs; whnf) <;> rfl) rfl (.one rfl (by (conv => lhs; whnf) <;> rfl) rfl .nil)))))))))))) (by repeat (first | exact FillL.nil | exact SetN.done | apply SetN.here | apply SetN.there | apply FillL.cons))) ?_)
  refine TL.cons rfl (V1.t (V1.fieldAddr fl_83_4 rfl) ?_)
  refine TL.cons rfl (T1.storeM (vs := [.int .i64 1, .int .i64 8, .int .i64 7, .int .i64 19, .int .i64 61, .int .i64 6, .int .i64 28, .int .i64 34, .int .i64 39, .int .i64 14, .int .i64 18, .int .i64 41]) rfl rfl sz_81 (ones rfl) (by repeat (first | exact Sub.one | apply Sub.there | apply Sub.far)) (by decide) (Nat.le_of_ble_eq_true rfl) (by rfl) ?_)
  refine TL.nil ?_
  refine T.seq ?_
  refine T.region ?_
  refine TL.cons rfl (V1.t (V1.move' (by (conv => lhs; whnf) <;> rfl)) ?_)
  refine TL.cons rfl (V1.t (V1.loadN (vs := [.int .i64 64, .int .i64 80, .int .i64 128, .slice (some ⟨b8, 0, none⟩) 8 8, .int .i64 1, .int .i64 8, .int .i64 7, .int .i64 19, .int .i64 61, .int .i64 6, .int .i64 28, .int .i64 34, .int .i64 39, .int .i64 14, .int .i64 18, .int .i64 41]) one_83 sz_83 rfl (RdN.whole (by repeat (first | exact Find.here | assumption | apply Find.there | apply Find.far))) (by rfl)) ?_)
  refine TL.cons rfl (T1.callX (X := [⟨b8, 0, (stL (upInit T512.init)).map w64, 8⟩]) has_43 rfl (refsum64_any _ b8 l hl) (by repeat (first | exact Take.nil | apply Take.one (by repeat (first | exact Pick.here | apply Pick.there | apply Pick.far)) | apply Take.seg (by repeat (first | exact PickS.last | exact PickS.one | exact PickS.here | exact PickS.nil | apply PickS.there | apply PickS.far)) | exact Take.last (by repeat (first | exact PickS.last | exact PickS.one | exact PickS.here | exact PickS.nil | apply PickS.there | apply PickS.far)))) (fun v Y hY => ?_))
  obtain ⟨Lr, hr, rfl⟩ := hY
  obtain ⟨bo, oo, co, zo, rfl, hco, hzo, rfl⟩ := hr.block (by intro h; have := congrArg List.length h; rw [List.length_map, sha_len] at this; simp at this)
  rw [show ((sha T512 l).map byteV).length = 64 from by rw [List.length_map, sha_len]] at hco ⊢
  dsimp only [List.cons_append, List.nil_append]
  refine TL.cons rfl (V1.t (V1.assign' (by (conv => lhs; whnf) <;> rfl)) ?_)
  refine TL.nil ?_
  refine T.seq ?_
  refine T.region ?_
  refine TL.cons rfl (V1.t (V1.buildA0 ty_31 sz_5 zr_31) ?_)
  refine TL.cons rfl (T1.allocN 64 zr_31 rfl (fun b5 => ?_))
  refine TL.cons rfl (T1.storeN rfl rfl sz_31 (ones rfl) (by repeat (first | exact Sub.one | apply Sub.there | apply Sub.far)) (by rfl) (by rfl) ?_)
  refine TL.nil ?_
  refine T.seq ?_
  refine T.seq ?_
  refine T.live (l := [(2, _), (4, _), (5, _)]) (.cons (by (conv => lhs; whnf) <;> rfl) (.cons (by (conv => lhs; whnf) <;> rfl) (.cons (by (conv => lhs; whnf) <;> rfl) .nil))) (fun e_ => ?_)
  refine T.region ?_
  refine TL.cons rfl (V1.t (V1.assign' (by (conv => lhs; whnf) <;> rfl)) ?_)
  refine TL.nil ?_
  refine T.block ?_
  refine T.loopL (σ := Nat) (l0 := [(2, _), (4, _), (5, _)]) (fun x => [(6, .int .i64 (x : Nat))]) (fun x L => L = ⟨b5, 0, ((sha T512 l).take x).map byteV ++ List.replicate (64 - x) (.int .u8 0), 64⟩ :: ⟨bo, oo, (sha T512 l).map byteV, zo⟩ :: ⟨b2, 0, List.replicate 64 (.int .u8 0), 64⟩ :: [] ∧ x ≤ 64) (fun x => 64 - x) 0 (.cons rfl .nil) (.cons (by (conv => lhs; whnf) <;> rfl) (.cons (by (conv => lhs; whnf) <;> rfl) (.cons (by (conv => lhs; whnf) <;> rfl) .nil))) (by repeat (first | exact Take.nil | apply Take.one (by repeat (first | exact Pick.here | apply Pick.there | apply Pick.far)) | apply Take.seg (by repeat (first | exact PickS.last | exact PickS.one | exact PickS.here | exact PickS.nil | apply PickS.there | apply PickS.far)) | exact Take.last (by repeat (first | exact PickS.last | exact PickS.one | exact PickS.here | exact PickS.nil | apply PickS.there | apply PickS.far)))) (⟨rfl, Nat.zero_le _⟩) ?_
  rintro i e_ L ⟨rfl, hi⟩
  refine T.seq ?_
  refine T.seq ?_
  refine T.region ?_
  refine TL.cons rfl (V1.t (V1.move' (by (conv => lhs; whnf) <;> rfl)) ?_)
  refine TL.cons rfl (T1.ltI_split rfl rfl (fun h7_1 => ?_) (fun h7_1 => ?_))
  ·
    refine TL.nil ?_
    refine T.cond_t rfl ?_
    refine T.skip ?_
    refine T.seq ?_
    refine T.block ?_
    refine T.region ?_
    refine TL.cons rfl (V1.t (V1.move' (by (conv => lhs; whnf) <;> rfl)) ?_)
    refine TL.cons rfl (V1.t (V1.move' (by (conv => lhs; whnf) <;> rfl)) ?_)
    refine TL.cons rfl (V1.t (V1.move' (by (conv => lhs; whnf) <;> rfl)) ?_)
    refine TL.cons rfl (V1.t (V1.indexAddrS ty_22 sz_5 rfl rfl (by omega) (by omega)) ?_)
    refine TL.cons rfl (V1.t (V1.load1 one_5 rfl (show Rd _ _ ⟨bo, oo + i * 1, none⟩ (byteV ((sha T512 l).getD i 0)) from by rw [Nat.mul_one]; exact Rd.at (by repeat (first | exact Find.here | assumption | apply Find.there | apply Find.far)) (by rw [List.getElem?_map, getD_get 0 (by rw [sha_len]; omega)]; rfl))) ?_)
    refine TL.cons rfl (V1.t (V1.indexAddrA ty_31 sz_5 rfl rfl (by omega) (by omega)) ?_)
    refine TL.cons rfl (T1.storeE (o := 0 + i * 1) (cells := ((sha T512 l).take i).map byteV ++ List.replicate (64 - i) (.int .u8 0)) (cells' := ((sha T512 l).take (i + 1)).map byteV ++ List.replicate (64 - (i + 1)) (.int .u8 0)) rfl rfl sz_5 rfl (by rw [show 0 + i * 1 - 0 = i from by omega]; exact fill_set 0 (show (sha T512 l).length = 64 from sha_len _ _) (by omega)) (by repeat (first | exact Sub.one | apply Sub.there | apply Sub.far)) (Nat.zero_le _) (by rw [List.length_append, List.length_map, List.length_take, List.length_replicate, sha_len]; omega) ?_)
    refine TL.nil ?_
    refine T.region ?_
    refine TL.cons rfl (V1.t (V1.move' (by (conv => lhs; whnf) <;> rfl)) ?_)
    refine TL.cons rfl (V1.t (V1.add rfl rfl (wrap_i64 _ (by omega) (by omega))) ?_)
    refine TL.cons rfl (V1.t (V1.assign' (by (conv => lhs; whnf) <;> rfl)) ?_)
    refine TL.nil ?_
    exact ⟨i + 1, _, _, (by simp only; omega), (.cons rfl .nil), (.cons rfl (.cons rfl (.cons rfl .nil))), (by repeat (first | exact Take.nil | apply Take.one (by repeat (first | exact Pick.here | apply Pick.there | apply Pick.far)) | apply Take.seg (by repeat (first | exact PickS.last | exact PickS.one | exact PickS.here | exact PickS.nil | apply PickS.there | apply PickS.far)) | exact Take.last (by repeat (first | exact PickS.last | exact PickS.one | exact PickS.here | exact PickS.nil | apply PickS.there | apply PickS.far)))), ⟨rfl, by omega⟩⟩
  ·
    obtain rfl : i = 64 := by omega
    rw [fill_end (show (sha T512 l).length = 64 from sha_len _ _)]
    refine TL.nil ?_
    refine T.cond_f rfl ?_
    refine T.exit ?_
    refine T.seq ?_
    refine T.region ?_
    refine TL.cons rfl (V1.t (V1.loadN one_31 sz_31 rfl (RdN.whole (by repeat (first | exact Find.here | assumption | apply Find.there | apply Find.far))) (by rw [List.length_map, sha_len])) ?_)
    refine TL.cons rfl (T1.storeN rfl rfl sz_31 (one_bytes _) (by repeat (first | exact Sub.one | apply Sub.there | apply Sub.far)) (by rw [List.length_map, sha_len, List.length_replicate]) (by rw [List.length_map, sha_len]) ?_)
    refine TL.nil ?_
    refine T.ret ?_
    exact ⟨_, [], _, .cons (.cellN (by (conv => lhs; whnf) <;> rfl) one_31 sz_31 (RdN.whole (by repeat (first | exact Find.here | assumption | apply Find.there | apply Find.far))) (by rw [List.length_map, sha_len])) .nil, Take.nil, rfl, rfl⟩

theorem cut_any (w0 : World) (v : Value) (l : List UInt8) (n : Nat) (w : World) (h : SlR w0 v 1 l.length (l.map byteV)) : Fn P 18 [v, .int .i64 (n : Int)] w [] (fun v Y => Y = [] ∧ SlR w0 v 1 (l.take n).length ((l.take n).map byteV)) := by
  obtain ⟨va, vc, rfl⟩ := h.form
  refine Fn.of 11 [.tmp 4] Go.Proofs.Try.func18 rfl rfl rfl rfl ?_
  refine T.seq ?_
  refine T.region ?_
  refine TL.cons rfl (V1.t (V1.assign' (by (conv => lhs; whnf) <;> rfl)) ?_)
  refine TL.nil ?_
  refine T.seq ?_
  refine T.region ?_
  refine TL.cons rfl (V1.t (V1.move' (by (conv => lhs; whnf) <;> rfl)) ?_)
  refine TL.cons rfl (V1.t (V1.move' (by (conv => lhs; whnf) <;> rfl)) ?_)
  refine TL.cons rfl (V1.t (V1.lenSl ty_22 rfl) ?_)
  refine TL.cons rfl (V1.t (V1.move' (by (conv => lhs; whnf) <;> rfl)) ?_)
  refine TL.cons rfl (V1.t (V1.min2 (c := ((min l.length n : Nat) : Int)) rfl rfl (by omega)) ?_)
  refine TL.cons rfl (T1.sliceR ty_22 sz_5 rfl h 0 (min l.length n) rfl rfl (Nat.zero_le _) (Nat.min_le_left _ _) (fun v1 hv1 => ?_))
  refine TL.cons rfl (V1.t (V1.assign' (by (conv => lhs; whnf) <;> rfl)) ?_)
  refine TL.nil ?_
  refine T.ret ?_
  rw [Nat.sub_zero, Nat.zero_mul, List.drop_zero, Nat.mul_one, ← List.map_take, show l.take (min l.length n) = l.take n from by rw [List.take_eq_take_iff]; omega] at hv1
  exact ⟨_, [], _, .cons (.tmp (by (conv => lhs; whnf) <;> rfl)) .nil, Take.nil, rfl, by rw [List.length_take, Nat.min_comm]; exact hv1⟩

def hexD : List UInt8 := [48, 49, 50, 51, 52, 53, 54, 55, 56, 57, 97, 98, 99, 100, 101, 102]
def hexB (c : UInt8) : List UInt8 := (hexD.drop (c.toNat / 16)).take (c.toNat / 16 + 1 - c.toNat / 16) ++ (hexD.drop (c.toNat % 16)).take (c.toNat % 16 + 1 - c.toNat % 16)
def hexL (p : List UInt8) : List UInt8 := p.flatMap hexB
theorem hexB_len (c : UInt8) : (hexB c).length ≤ 2 := by
  unfold hexB
  rw [List.length_append, List.length_take, List.length_take]; omega
theorem hexL_len : ∀ p : List UInt8, (hexL p).length ≤ 2 * p.length
  | [] => by simp [hexL]
  | c :: p => by
    have h1 := hexL_len p
    have h2 := hexB_len c
    show (hexB c ++ hexL p).length ≤ _
    rw [List.length_append, List.length_cons]; omega
theorem hexL_take {p : List UInt8} {k : Nat} {c : UInt8} (h : p[k]? = some c) : hexL (p.take k) ++ hexB c = hexL (p.take (k + 1)) := by
  unfold hexL
  rw [List.take_add_one, h, List.flatMap_append]; simp
theorem PartR.byte {C : Ctx} {w0 : World} {Ps L : List Blk} {a : Option Addr} {n c : Nat} {p : List UInt8} (h : PartR w0 Ps (.slice a n c) p) (h0 : C.w0 = w0) (hm : C.M = []) (hL : ∀ B ∈ Ps, B ∈ L) {k : Nat} {x : UInt8} (hk : p[k]? = some x) :
    ∃ b o, a = some ⟨b, o, none⟩ ∧ Rd C L ⟨b, o + k * 1, none⟩ (byteV x) := by
  have hkl : k < p.length := (List.getElem?_eq_some_iff.1 hk).1
  rcases (h.src C h0 hm L hL).inv _ _ _ rfl with h0 | ⟨b, o, h0, hr⟩
  · omega
  · refine ⟨b, o, h0, ?_⟩
    rw [Nat.mul_one]
    exact hr k _ (by rw [List.getElem?_map, hk]; rfl)

set_option maxRecDepth 100000 in
set_option maxHeartbeats 1000000 in
theorem hex_any (w0 : World) (v : Value) (p : List UInt8) (Ps : List Blk) (hp : PartR w0 Ps v p) (hl : p.length < 4294967296) : FnX P 42 [v] w0 [] Ps (fun r Y => r = .string (bstr (hexL p)) ∧ Y = Ps) := by
  obtain ⟨pa, pc, rfl⟩ := hp.form
  refine FnX.of 29 [.tmp 2] Go.Proofs.Try.func42 rfl rfl rfl rfl (fun G => ?_)
  refine T.seq ?_
  refine T.region ?_
  refine TL.cons rfl (V1.t (V1.assign' (by (conv => lhs; whnf) <;> rfl)) ?_)
  refine TL.nil ?_
  refine T.seq ?_
  refine T.region ?_
  refine TL.cons rfl (V1.t (V1.assign' (by (conv => lhs; whnf) <;> rfl)) ?_)
  refine TL.nil ?_
  refine T.seq ?_
  refine T.seq ?_
  refine T.region ?_
  refine TL.cons rfl (V1.t (V1.move' (by (conv => lhs; whnf) <;> rfl)) ?_)
  refine TL.cons rfl (V1.t (V1.lenSl ty_22 rfl) ?_)
  refine TL.cons rfl (V1.t (V1.move' (by (conv => lhs; whnf) <;> rfl)) ?_)
  refine TL.nil ?_
  refine T.block ?_
  refine T.loopL (σ := Nat) (l0 := [(6, _), (7, _)]) (fun x => [(8, .int .i64 (x : Nat)), (3, .string (bstr (hexL (p.take x))))]) (fun x L => L = Ps ++ G ∧ x ≤ p.length) (fun x => p.length - x) 0 (.cons rfl (.cons rfl .nil)) (.cons (by (conv => lhs; whnf) <;> rfl) (.cons (by (conv => lhs; whnf) <;> rfl) .nil)) (by repeat (first | exact Take.nil | apply Take.one (by repeat (first | exact Pick.here | apply Pick.there | apply Pick.far)) | apply Take.seg (by repeat (first | exact PickS.last | exact PickS.one | exact PickS.here | exact PickS.nil | apply PickS.there | apply PickS.far)) | exact Take.last (by repeat (first | exact PickS.last | exact PickS.one | exact PickS.here | exact PickS.nil | apply PickS.there | apply PickS.far)))) (⟨rfl, Nat.zero_le _⟩) ?_
  rintro k e_ L ⟨rfl, hk⟩
  refine T.seq ?_
  refine T.region ?_
  refine TL.cons rfl (T1.ltI_split rfl rfl (fun h3_0 => ?_) (fun h3_0 => ?_))
  ·
    obtain ⟨x, hx⟩ : ∃ x, p[k]? = some x := ⟨_, List.getElem?_eq_getElem (by omega)⟩
    have hx8 := x.toNat_lt
    obtain ⟨ba, oa, rfl, hrd⟩ := hp.byte (C := ⟨P, w0, [], 29⟩) rfl rfl (L := Ps ++ G) (by intro B hB; simp [hB]) hx
    have hhl := hexL_len (p.take k)
    rw [List.length_take] at hhl
    refine TL.nil ?_
    refine T.seq ?_
    refine T.cond_t rfl ?_
    refine T.skip ?_
    refine T.seq ?_
    refine T.block ?_
    refine T.seq ?_
    refine T.region ?_
    refine TL.cons rfl (V1.t (V1.indexAddrS ty_22 sz_5 rfl rfl (by omega) (by omega)) ?_)
    refine TL.cons rfl (V1.t (V1.load1 one_5 rfl hrd) ?_)
    refine TL.cons rfl (V1.t (V1.assign' (by (conv => lhs; whnf) <;> rfl)) ?_)
    refine TL.nil ?_
    refine T.drawR mixed ?_
    refine TD.takeR 0 rfl (by decide +kernel) (by decide +kernel) (by decide +kernel) rfl (fun _ _ _ h => h) (V1.move' (by (conv => lhs; whnf) <;> rfl)) ?_
    refine TD.takeR 1 rfl (by decide +kernel) (by decide +kernel) (by decide +kernel) rfl (fun _ _ _ h => h) (V1.move' (by (conv => lhs; whnf) <;> rfl)) ?_
    refine TD.takeR 2 rfl (by decide +kernel) (by decide +kernel) (by decide +kernel) rfl (fun _ _ _ h => h) (V1.quo (c := ((x.toNat / 16 : Nat) : Int)) rfl rfl (by decide) (by rw [show ((x.toNat : Int).tdiv 16) = ((x.toNat / 16 : Nat) : Int) from tquoN _ 16]; exact wrap_u8 _ (by omega) (by omega))) ?_
    refine TD.takeR 3 rfl (by decide +kernel) (by decide +kernel) (by decide +kernel) rfl (fun _ _ _ h => h) (V1.move' (by (conv => lhs; whnf) <;> rfl)) ?_
    refine TD.takeR 4 rfl (by decide +kernel) (by decide +kernel) (by decide +kernel) rfl (fun _ _ _ h => h) (V1.quo (c := ((x.toNat / 16 : Nat) : Int)) rfl rfl (by decide) (by rw [show ((x.toNat : Int).tdiv 16) = ((x.toNat / 16 : Nat) : Int) from tquoN _ 16]; exact wrap_u8 _ (by omega) (by omega))) ?_
    refine TD.takeR 5 rfl (by decide +kernel) (by decide +kernel) (by decide +kernel) rfl (fun _ _ _ h => h) (V1.add (c := ((x.toNat / 16 + 1 : Nat) : Int)) rfl rfl (by rw [wrap_u8 _ (by omega) (by omega)]; omega)) ?_
    refine TD.takeR 6 rfl (by decide +kernel) (by decide +kernel) (by decide +kernel) rfl (fun _ _ _ h => h) (V1.sliceB (s := hexD) (x.toNat / 16) (x.toNat / 16 + 1) ty_9 rfl rfl rfl (by omega) (by show _ ≤ 16; omega)) ?_
    refine TD.takeR 7 rfl (by decide +kernel) (by decide +kernel) (by decide +kernel) rfl (fun _ _ _ h => h) (V1.move' (by (conv => lhs; whnf) <;> rfl)) ?_
    refine TD.takeR 8 rfl (by decide +kernel) (by decide +kernel) (by decide +kernel) rfl (fun _ _ _ h => h) (V1.rem (c := ((x.toNat % 16 : Nat) : Int)) rfl rfl (by decide) (tmodN _ 16)) ?_
    refine TD.takeR 9 rfl (by decide +kernel) (by decide +kernel) (by decide +kernel) rfl (fun _ _ _ h => h) (V1.move' (by (conv => lhs; whnf) <;> rfl)) ?_
    refine TD.takeR 10 rfl (by decide +kernel) (by decide +kernel) (by decide +kernel) rfl (fun _ _ _ h => h) (V1.rem (c := ((x.toNat % 16 : Nat) : Int)) rfl rfl (by decide) (tmodN _ 16)) ?_
    refine TD.takeR 11 rfl (by decide +kernel) (by decide +kernel) (by decide +kernel) rfl (fun _ _ _ h => h) (V1.add (c := ((x.toNat % 16 + 1 : Nat) : Int)) rfl rfl (by rw [wrap_u8 _ (by omega) (by omega)]; omega)) ?_
    refine TD.takeR 12 rfl (by decide +kernel) (by decide +kernel) (by decide +kernel) rfl (fun _ _ _ h => h) (V1.sliceB (s := hexD) (x.toNat % 16) (x.toNat % 16 + 1) ty_9 rfl rfl rfl (by omega) (by show _ ≤ 16; omega)) ?_
    refine TD.takeR 13 rfl (by decide +kernel) (by decide +kernel) (by decide +kernel) rfl (fun _ _ _ h => h) (V1.addB rfl rfl (by rw [List.length_take, List.length_take]; omega)) ?_
    refine TD.takeR 14 rfl (by decide +kernel) (by decide +kernel) (by decide +kernel) rfl (fun _ _ _ h => h) (V1.addB rfl rfl (by have := hexB_len x; unfold hexB at this; omega)) ?_
    refine TD.takeR 15 rfl (by decide +kernel) (by decide +kernel) (by decide +kernel) rfl (fun _ _ _ h => h) (V1.assign' (by (conv => lhs; whnf) <;> rfl)) ?_
    refine TD.done (by decide +kernel) ?_
    refine T.live (l := [(3, _), (6, _), (7, _), (8, _)]) (.cons (by (conv => lhs; whnf) <;> rfl) (.cons (by (conv => lhs; whnf) <;> rfl) (.cons (by (conv => lhs; whnf) <;> rfl) (.cons (by (conv => lhs; whnf) <;> rfl) .nil)))) (fun e_ => ?_)
    refine T.region ?_
    refine TL.cons rfl (V1.t (V1.add rfl rfl (wrap_i64 _ (by omega) (by omega))) ?_)
    refine TL.cons rfl (V1.t (V1.move' (by (conv => lhs; whnf) <;> rfl)) ?_)
    refine TL.nil ?_
    exact ⟨k + 1, _, _, (by simp only; omega), (.cons rfl (.cons (congrArg (fun q => Value.string (bstr q)) (hexL_take hx)) .nil)), (.cons rfl (.cons rfl .nil)), (by repeat (first | exact Take.nil | apply Take.one (by repeat (first | exact Pick.here | apply Pick.there | apply Pick.far)) | apply Take.seg (by repeat (first | exact PickS.last | exact PickS.one | exact PickS.here | exact PickS.nil | apply PickS.there | apply PickS.far)) | exact Take.last (by repeat (first | exact PickS.last | exact PickS.one | exact PickS.here | exact PickS.nil | apply PickS.there | apply PickS.far)))), ⟨rfl, by omega⟩⟩
  ·
    obtain rfl : k = p.length := by omega
    refine TL.nil ?_
    refine T.seq ?_
    refine T.cond_f rfl ?_
    refine T.exit ?_
    refine T.seq ?_
    refine T.region ?_
    refine TL.cons rfl (V1.t (V1.move' (by (conv => lhs; whnf) <;> rfl)) ?_)
    refine TL.cons rfl (V1.t (V1.assign' (by (conv => lhs; whnf) <;> rfl)) ?_)
    refine TL.nil ?_
    refine T.ret ?_
    rw [List.take_of_length_le (Nat.le_refl _)]
    exact ⟨_, Ps ++ G, _, .cons (.tmp (by (conv => lhs; whnf) <;> rfl)) .nil, (by repeat (first | exact Take.nil | apply Take.one (by repeat (first | exact Pick.here | apply Pick.there | apply Pick.far)) | apply Take.seg (by repeat (first | exact PickS.last | exact PickS.one | exact PickS.here | exact PickS.nil | apply PickS.there | apply PickS.far)) | exact Take.last (by repeat (first | exact PickS.last | exact PickS.one | exact PickS.here | exact PickS.nil | apply PickS.there | apply PickS.far)))), Ps, rfl, rfl, rfl⟩

set_option maxRecDepth 100000 in
theorem hex_abc256 : hexL (sha T256 [97, 98, 99]) = [98, 97, 55, 56, 49, 54, 98, 102, 56, 102, 48, 49, 99, 102, 101, 97, 52, 49, 52, 49, 52, 48, 100, 101, 53, 100, 97, 101, 50, 50, 50, 51, 98, 48, 48, 51, 54, 49, 97, 51, 57, 54, 49, 55, 55, 97, 57, 99, 98, 52, 49, 48, 102, 102, 54, 49, 102, 50, 48, 48, 49, 53, 97, 100] := by decide +kernel
set_option maxRecDepth 100000 in
theorem hex_abc512a : hexL ((sha T512 [97, 98, 99]).take 8) = [100, 100, 97, 102, 51, 53, 97, 49, 57, 51, 54, 49, 55, 97, 98, 97] := by decide +kernel
set_option maxRecDepth 100000 in
theorem hex_abc512b : hexL ((sha T512 [97, 98, 99]).drop 56) = [50, 97, 57, 97, 99, 57, 52, 102, 97, 53, 52, 99, 97, 52, 57, 102] := by decide +kernel

set_option maxRecDepth 100000 in
theorem small_any (w : World) : Fn P 17 [] w [] (fun v Y => Y = [] ∧ v = .bool true) := by
  refine Fn.of 9 [.tmp 0] Go.Proofs.Try.func17 rfl rfl rfl rfl ?_
  refine T.seq ?_
  refine T.region ?_
  refine TL.cons rfl (V1.t (V1.assign' (by (conv => lhs; whnf) <;> rfl)) ?_)
  refine TL.nil ?_
  refine T.seq ?_
  refine T.region ?_
  refine TL.cons rfl (T1.buildSl1 (os := [.const (.int .u8 97), .const (.int .u8 98), .const (.int .u8 99)]) ty_22 sz_5 zr_5 (by decide) rfl (.cons (by (conv => lhs; whnf) <;> rfl) (.cons (by (conv => lhs; whnf) <;> rfl) (.cons (by (conv => lhs; whnf) <;> rfl) .nil))) rfl (ones rfl) (fun b2 => ?_))
  refine TL.cons rfl (T1.convLit ty_22 ty_5 rfl (by repeat (first | exact Sub.one | apply Sub.there | apply Sub.far)) ?_)
  refine TL.cons rfl (T1.buildSl1 (os := [.tmp 3]) (vs := [.slice (some ⟨b2, 0, none⟩) 3 3]) ty_44 sz_22 zr_22 (by decide) rfl (.cons (by (conv => lhs; whnf) <;> rfl) .nil) rfl (ones rfl) (fun b4 => ?_))
  refine TL.cons rfl (T1.callX has_19 rfl (Sum256_any _ _ [[97, 98, 99]] [⟨b4, 0, [.slice (some ⟨b2, 0, none⟩) 3 3], 1⟩, ⟨b2, 0, ([97, 98, 99] : List UInt8).map byteV, 3⟩] (PartsR.ones (size := 1) (by simp) rfl (one_part (PartR.own (Ls := [⟨b2, 0, ([97, 98, 99] : List UInt8).map byteV, 3⟩]) (.inr ⟨b2, 0, 3, 3, 3, rfl, rfl, by decide, by decide, rfl⟩) (by intro B hB; exact List.mem_cons_of_mem _ hB)))) (one_len (by decide)) (by decide) (by decide)) (by repeat (first | exact Take.nil | apply Take.one (by repeat (first | exact Pick.here | apply Pick.there | apply Pick.far)) | apply Take.seg (by repeat (first | exact PickS.last | exact PickS.one | exact PickS.here | exact PickS.nil | apply PickS.there | apply PickS.far)) | exact Take.last (by repeat (first | exact PickS.last | exact PickS.one | exact PickS.here | exact PickS.nil | apply PickS.there | apply PickS.far)))) (fun v Y hY => ?_))
  obtain ⟨rfl, rfl⟩ := hY
  dsimp only [List.cons_append, List.nil_append]
  refine TL.cons rfl (T1.allocN 32 zr_26 rfl (fun b1 => ?_))
  refine TL.cons rfl (T1.storeN rfl rfl sz_26 (one_bytes _) (by repeat (first | exact Sub.one | apply Sub.there | apply Sub.far)) (by rw [List.length_map, sha_len]; rfl) (by rw [List.length_map, sha_len]) ?_)
  refine TL.nil ?_
  refine T.seq ?_
  refine T.region ?_
  refine TL.cons rfl (V1.t (V1.sliceA ty_26 sz_5 rfl rfl rfl (by decide) (by decide) (by decide)) ?_)
  refine TL.cons rfl (T1.callX has_42 rfl (hex_any _ _ (sha T256 [97, 98, 99]) [⟨b1, 0, (sha T256 [97, 98, 99]).map byteV, 32⟩] (PartR.own (.inr ⟨b1, 0, 32, 32, 32, rfl, by rw [List.length_map, sha_len], by decide, by decide, rfl⟩) (fun _ h => h)) (by rw [sha_len]; decide)) (by repeat (first | exact Take.nil | apply Take.one (by repeat (first | exact Pick.here | apply Pick.there | apply Pick.far)) | apply Take.seg (by repeat (first | exact PickS.last | exact PickS.one | exact PickS.here | exact PickS.nil | apply PickS.there | apply PickS.far)) | exact Take.last (by repeat (first | exact PickS.last | exact PickS.one | exact PickS.here | exact PickS.nil | apply PickS.there | apply PickS.far)))) (fun v Y hY => ?_))
  obtain ⟨rfl, rfl⟩ := hY
  rw [hex_abc256]
  refine TL.cons rfl (V1.t (V1.eqS (r := true) rfl rfl (by decide +kernel)) ?_)
  refine TL.cons rfl (V1.t (V1.assign' (by (conv => lhs; whnf) <;> rfl)) ?_)
  refine TL.nil ?_
  refine T.ret ?_
  exact ⟨_, [], _, .cons (.tmp (by (conv => lhs; whnf) <;> rfl)) .nil, Take.nil, rfl, rfl⟩

theorem part_of {w0 : World} {Ps : List Blk} {b o c n size : Nat} {cells : List Value} {p : List UInt8} (hB : (⟨b, 0, cells, size⟩ : Blk) ∈ Ps) (hn : p.length = n) (hp : (cells.drop o).take n = p.map byteV) : PartR w0 Ps (.slice (some ⟨b, 0 + o, none⟩) n c) p := by
  subst hn; exact PartR.piece hB hp

set_option maxRecDepth 100000 in
theorem large_any (w : World) : Fn P 21 [] w [] (fun v Y => Y = [] ∧ v = .bool true) := by
  refine Fn.of 14 [.tmp 0] Go.Proofs.Try.func21 rfl rfl rfl rfl ?_
  refine T.seq ?_
  refine T.region ?_
  refine TL.cons rfl (V1.t (V1.assign' (by (conv => lhs; whnf) <;> rfl)) ?_)
  refine TL.nil ?_
  refine T.seq ?_
  refine T.region ?_
  refine TL.cons rfl (T1.buildSl1 (os := [.const (.int .u8 97), .const (.int .u8 98), .const (.int .u8 99)]) ty_22 sz_5 zr_5 (by decide) rfl (.cons (by (conv => lhs; whnf) <;> rfl) (.cons (by (conv => lhs; whnf) <;> rfl) (.cons (by (conv => lhs; whnf) <;> rfl) .nil))) rfl (ones rfl) (fun b2 => ?_))
  refine TL.cons rfl (T1.convLit ty_22 ty_5 rfl (by repeat (first | exact Sub.one | apply Sub.there | apply Sub.far)) ?_)
  refine TL.cons rfl (T1.buildSl1 (os := [.tmp 3]) (vs := [.slice (some ⟨b2, 0, none⟩) 3 3]) ty_44 sz_22 zr_22 (by decide) rfl (.cons (by (conv => lhs; whnf) <;> rfl) .nil) rfl (ones rfl) (fun b4 => ?_))
  refine TL.cons rfl (T1.callX has_22 rfl (Sum512_any _ _ [[97, 98, 99]] [⟨b4, 0, [.slice (some ⟨b2, 0, none⟩) 3 3], 1⟩, ⟨b2, 0, ([97, 98, 99] : List UInt8).map byteV, 3⟩] (PartsR.ones (size := 1) (by simp) rfl (one_part (PartR.own (Ls := [⟨b2, 0, ([97, 98, 99] : List UInt8).map byteV, 3⟩]) (.inr ⟨b2, 0, 3, 3, 3, rfl, rfl, by decide, by decide, rfl⟩) (by intro B hB; exact List.mem_cons_of_mem _ hB)))) (one_len (by decide)) (by decide) (by decide)) (by repeat (first | exact Take.nil | apply Take.one (by repeat (first | exact Pick.here | apply Pick.there | apply Pick.far)) | apply Take.seg (by repeat (first | exact PickS.last | exact PickS.one | exact PickS.here | exact PickS.nil | apply PickS.there | apply PickS.far)) | exact Take.last (by repeat (first | exact PickS.last | exact PickS.one | exact PickS.here | exact PickS.nil | apply PickS.there | apply PickS.far)))) (fun v Y hY => ?_))
  obtain ⟨rfl, rfl⟩ := hY
  dsimp only [List.cons_append, List.nil_append]
  refine TL.cons rfl (T1.allocN 64 zr_31 rfl (fun b1 => ?_))
  refine TL.cons rfl (T1.storeN rfl rfl sz_31 (one_bytes _) (by repeat (first | exact Sub.one | apply Sub.there | apply Sub.far)) (by rw [List.length_map, sha_len]; rfl) (by rw [List.length_map, sha_len]) ?_)
  have hp8 : PartR w [⟨b1, 0, (sha T512 [97, 98, 99]).map byteV, 64⟩] (.slice (some ⟨b1, 0 + 0, none⟩) 8 64) ((sha T512 [97, 98, 99]).take 8) := part_of (cells := (sha T512 [97, 98, 99]).map byteV) (size := 64) (by simp) (by rw [List.length_take, sha_len]; rfl) (by rw [List.drop_zero, List.map_take])
  have hp56 : PartR w [⟨b1, 0, (sha T512 [97, 98, 99]).map byteV, 64⟩] (.slice (some ⟨b1, 0 + 56, none⟩) 8 8) ((sha T512 [97, 98, 99]).drop 56) := part_of (cells := (sha T512 [97, 98, 99]).map byteV) (size := 64) (by simp) (by rw [List.length_drop, sha_len]) (by rw [List.map_drop, List.take_of_length_le (by rw [List.length_drop, List.length_map, sha_len]; decide)])
  refine TL.nil ?_
  refine T.seq ?_
  refine T.region ?_
  refine TL.cons rfl (V1.t (V1.sliceA ty_31 sz_5 rfl rfl rfl (by decide) (by decide) (by decide)) ?_)
  refine TL.cons rfl (T1.callX has_42 rfl (hex_any _ _ ((sha T512 [97, 98, 99]).take 8) [⟨b1, 0, (sha T512 [97, 98, 99]).map byteV, 64⟩] hp8 (by rw [List.length_take, sha_len]; decide)) (by repeat (first | exact Take.nil | apply Take.one (by repeat (first | exact Pick.here | apply Pick.there | apply Pick.far)) | apply Take.seg (by repeat (first | exact PickS.last | exact PickS.one | exact PickS.here | exact PickS.nil | apply PickS.there | apply PickS.far)) | exact Take.last (by repeat (first | exact PickS.last | exact PickS.one | exact PickS.here | exact PickS.nil | apply PickS.there | apply PickS.far)))) (fun v Y hY => ?_))
  obtain ⟨rfl, rfl⟩ := hY
  rw [hex_abc512a]
  refine TL.cons rfl (V1.t (V1.eqS (r := true) rfl rfl (by decide +kernel)) ?_)
  refine TL.cons rfl (V1.t (V1.move' (by (conv => lhs; whnf) <;> rfl)) ?_)
  refine TL.cons rfl (V1.t (V1.sliceA ty_31 sz_5 rfl rfl rfl (by decide) (by decide) (by decide)) ?_)
  refine TL.cons rfl (T1.callX has_42 rfl (hex_any _ _ ((sha T512 [97, 98, 99]).drop 56) [⟨b1, 0, (sha T512 [97, 98, 99]).map byteV, 64⟩] hp56 (by rw [List.length_drop, sha_len]; decide)) (by repeat (first | exact Take.nil | apply Take.one (by repeat (first | exact Pick.here | apply Pick.there | apply Pick.far)) | apply Take.seg (by repeat (first | exact PickS.last | exact PickS.one | exact PickS.here | exact PickS.nil | apply PickS.there | apply PickS.far)) | exact Take.last (by repeat (first | exact PickS.last | exact PickS.one | exact PickS.here | exact PickS.nil | apply PickS.there | apply PickS.far)))) (fun v Y hY => ?_))
  obtain ⟨rfl, rfl⟩ := hY
  rw [hex_abc512b]
  refine TL.cons rfl (V1.t (V1.eqS (r := true) rfl rfl (by decide +kernel)) ?_)
  refine TL.cons rfl (V1.t (V1.pick rfl (by (conv => lhs; whnf) <;> rfl)) ?_)
  refine TL.cons rfl (V1.t (V1.assign' (by (conv => lhs; whnf) <;> rfl)) ?_)
  refine TL.nil ?_
  refine T.ret ?_
  exact ⟨_, [], _, .cons (.tmp (by (conv => lhs; whnf) <;> rfl)) .nil, Take.nil, rfl, rfl⟩

set_option maxRecDepth 100000 in
set_option maxHeartbeats 2000000 in
theorem ShaSmall_any (v0 : Value) (l : List UInt8) (w0 : World) (h : SlR w0 v0 1 l.length (l.map byteV)) : Fn P 3 [v0] w0 [] (fun v _ => v = .bool true) := by
  obtain ⟨va, vc, rfl⟩ := h.form
  refine Fn.of 14 [.tmp 2] Go.Proofs.Try.func3 rfl rfl rfl rfl ?_
  refine T.seq ?_
  refine T.region ?_
  refine TL.cons rfl (V1.t (V1.assign' (by (conv => lhs; whnf) <;> rfl)) ?_)
  refine TL.nil ?_
  refine T.seq ?_
  refine T.seq ?_
  refine T.region ?_
  refine TL.cons rfl (T1.call0 has_17 rfl (fun w hs => small_any w) (fun v hv => ?_))
  subst hv
  refine TL.cons rfl (V1.t (V1.not rfl rfl) ?_)
  refine TL.nil ?_
  refine T.cond_f rfl ?_
  refine T.skip ?_
  refine T.seq ?_
  refine T.region ?_
  refine TL.cons rfl (V1.t (V1.move' (by (conv => lhs; whnf) <;> rfl)) ?_)
  refine TL.cons rfl (T1.call0 has_18 rfl (fun w hs => cut_any w0 _ l 1000 w h) (fun v hv => ?_))
  obtain ⟨m, hm⟩ : ∃ m, m = l.take 1000 := ⟨_, rfl⟩
  have hml : m.length ≤ 1000 := by rw [hm, List.length_take]; omega
  rw [← hm] at hv
  obtain ⟨ma, mc, rfl⟩ := hv.form
  refine TL.cons rfl (V1.t (V1.assign' (by (conv => lhs; whnf) <;> rfl)) ?_)
  refine TL.nil ?_
  refine T.seq ?_
  refine T.drawK (fun L_ => True) mixed trivial ?_
  refine TK.take 0 rfl (by decide +kernel) (by decide +kernel) (by decide +kernel) rfl (fun _ _ _ h => h) (fun L_ _ => V1.move' (by (conv => lhs; whnf) <;> rfl)) ?_
  refine TK.take 3 rfl (by decide +kernel) (by decide +kernel) (by decide +kernel) rfl (fun _ _ _ h => h) (fun L_ _ => V1.move' (by (conv => lhs; whnf) <;> rfl)) ?_
  refine TK.take 4 rfl (by decide +kernel) (by decide +kernel) (by decide +kernel) rfl (fun _ _ _ h => h) (fun L_ _ => V1.bytesToStr (l := m) ty_22 ty_5 ty_9 rfl (hv.src rfl) (by intro b h; cases h)) ?_
  refine TK.one 1 (by decide +kernel) rfl rfl (T1.buildSl1 (os := [.tmp 7]) (vs := [.slice ma m.length mc]) ty_44 sz_22 zr_22 (by decide) rfl (.cons (by (conv => lhs; whnf) <;> rfl) .nil) rfl (ones rfl) (fun b8 => ?_))
  refine ⟨trivial, ?_⟩
  refine TK.one 2 (by decide +kernel) rfl rfl (T1.callX has_19 rfl (Sum256_any _ _ [m] [⟨b8, 0, [.slice ma m.length mc], 1⟩] (PartsR.ones (size := 1) (by simp) rfl (one_part (PartR.old hv))) (one_len (by omega)) (show 1 < 9223372036854775807 by decide) (by simp; omega)) (by repeat (first | exact Take.nil | apply Take.one (by repeat (first | exact Pick.here | apply Pick.there | apply Pick.far)) | apply Take.seg (by repeat (first | exact PickS.last | exact PickS.one | exact PickS.here | exact PickS.nil | apply PickS.there | apply PickS.far)) | exact Take.last (by repeat (first | exact PickS.last | exact PickS.one | exact PickS.here | exact PickS.nil | apply PickS.there | apply PickS.far)))) (fun v Y hY => ?_))
  obtain ⟨rfl, rfl⟩ := hY
  dsimp only [List.cons_append, List.nil_append]
  rw [show ([m] : List (List UInt8)).flatten = m from by simp]
  refine ⟨trivial, ?_⟩
  refine TK.one 5 (by decide +kernel) rfl rfl (T1.call0 has_20 rfl (fun w hs => refSum256_any m w (by omega)) (fun v hv2 => ?_))
  subst hv2
  refine ⟨trivial, ?_⟩
  refine TK.take 6 rfl (by decide +kernel) (by decide +kernel) (by decide +kernel) rfl (fun _ _ _ h => h) (fun L_ _ => V1.eqBs (r := true) ty_26 ty_5 sz_5 eg_26 rfl rfl (sha_len _ _) (sha_len _ _) (by simp)) ?_
  refine TK.take 7 rfl (by decide +kernel) (by decide +kernel) (by decide +kernel) rfl (fun _ _ _ h => h) (fun L_ _ => V1.assign' (by (conv => lhs; whnf) <;> rfl)) ?_
  refine TD.done (by decide +kernel) ?_
  refine T.ret ?_
  exact ⟨_, [], _, .cons (.tmp (by (conv => lhs; whnf) <;> rfl)) .nil, Take.nil, rfl⟩

set_option maxRecDepth 100000 in
set_option maxHeartbeats 2000000 in
theorem ShaLarge_any (v0 : Value) (l : List UInt8) (w0 : World) (h : SlR w0 v0 1 l.length (l.map byteV)) : Fn P 4 [v0] w0 [] (fun v _ => v = .bool true) := by
  obtain ⟨va, vc, rfl⟩ := h.form
  refine Fn.of 14 [.tmp 2] Go.Proofs.Try.func4 rfl rfl rfl rfl ?_
  refine T.seq ?_
  refine T.region ?_
  refine TL.cons rfl (V1.t (V1.assign' (by (conv => lhs; whnf) <;> rfl)) ?_)
  refine TL.nil ?_
  refine T.seq ?_
  refine T.seq ?_
  refine T.region ?_
  refine TL.cons rfl (T1.call0 has_21 rfl (fun w hs => large_any w) (fun v hv => ?_))
  subst hv
  refine TL.cons rfl (V1.t (V1.not rfl rfl) ?_)
  refine TL.nil ?_
  refine T.cond_f rfl ?_
  refine T.skip ?_
  refine T.seq ?_
  refine T.region ?_
  refine TL.cons rfl (V1.t (V1.move' (by (conv => lhs; whnf) <;> rfl)) ?_)
  refine TL.cons rfl (T1.call0 has_18 rfl (fun w hs => cut_any w0 _ l 1000 w h) (fun v hv => ?_))
  obtain ⟨m, hm⟩ : ∃ m, m = l.take 1000 := ⟨_, rfl⟩
  have hml : m.length ≤ 1000 := by rw [hm, List.length_take]; omega
  rw [← hm] at hv
  obtain ⟨ma, mc, rfl⟩ := hv.form
  refine TL.cons rfl (V1.t (V1.assign' (by (conv => lhs; whnf) <;> rfl)) ?_)
  refine TL.nil ?_
  refine T.seq ?_
  refine T.drawK (fun L_ => True) mixed trivial ?_
  refine TK.take 0 rfl (by decide +kernel) (by decide +kernel) (by decide +kernel) rfl (fun _ _ _ h => h) (fun L_ _ => V1.move' (by (conv => lhs; whnf) <;> rfl)) ?_
  refine TK.take 3 rfl (by decide +kernel) (by decide +kernel) (by decide +kernel) rfl (fun _ _ _ h => h) (fun L_ _ => V1.move' (by (conv => lhs; whnf) <;> rfl)) ?_
  refine TK.take 4 rfl (by decide +kernel) (by decide +kernel) (by decide +kernel) rfl (fun _ _ _ h => h) (fun L_ _ => V1.bytesToStr (l := m) ty_22 ty_5 ty_9 rfl (hv.src rfl) (by intro b h; cases h)) ?_
  refine TK.one 1 (by decide +kernel) rfl rfl (T1.buildSl1 (os := [.tmp 7]) (vs := [.slice ma m.length mc]) ty_44 sz_22 zr_22 (by decide) rfl (.cons (by (conv => lhs; whnf) <;> rfl) .nil) rfl (ones rfl) (fun b8 => ?_))
  refine ⟨trivial, ?_⟩
  refine TK.one 2 (by decide +kernel) rfl rfl (T1.callX has_22 rfl (Sum512_any _ _ [m] [⟨b8, 0, [.slice ma m.length mc], 1⟩] (PartsR.ones (size := 1) (by simp) rfl (one_part (PartR.old hv))) (one_len (by omega)) (show 1 < 9223372036854775807 by decide) (by simp; omega)) (by repeat (first | exact Take.nil | apply Take.one (by repeat (first | exact Pick.here | apply Pick.there | apply Pick.far)) | apply Take.seg (by repeat (first | exact PickS.last | exact PickS.one | exact PickS.here | exact PickS.nil | apply PickS.there | apply PickS.far)) | exact Take.last (by repeat (first | exact PickS.last | exact PickS.one | exact PickS.here | exact PickS.nil | apply PickS.there | apply PickS.far)))) (fun v Y hY => ?_))
  obtain ⟨rfl, rfl⟩ := hY
  dsimp only [List.cons_append, List.nil_append]
  rw [show ([m] : List (List UInt8)).flatten = m from by simp]
  refine ⟨trivial, ?_⟩
  refine TK.one 5 (by decide +kernel) rfl rfl (T1.call0 has_23 rfl (fun w hs => refSum512_any m w (by omega)) (fun v hv2 => ?_))
  subst hv2
  refine ⟨trivial, ?_⟩
  refine TK.take 6 rfl (by decide +kernel) (by decide +kernel) (by decide +kernel) rfl (fun _ _ _ h => h) (fun L_ _ => V1.eqBs (r := true) ty_31 ty_5 sz_5 eg_31 rfl rfl (sha_len _ _) (sha_len _ _) (by simp)) ?_
  refine TK.take 7 rfl (by decide +kernel) (by decide +kernel) (by decide +kernel) rfl (fun _ _ _ h => h) (fun L_ _ => V1.assign' (by (conv => lhs; whnf) <;> rfl)) ?_
  refine TD.done (by decide +kernel) ?_
  refine T.ret ?_
  exact ⟨_, [], _, .cons (.tmp (by (conv => lhs; whnf) <;> rfl)) .nil, Take.nil, rfl⟩

end Go.Proofs.Ytelcmllfojfbfaa.S
