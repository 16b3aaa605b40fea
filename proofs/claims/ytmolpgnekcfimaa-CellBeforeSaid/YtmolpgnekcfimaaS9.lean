/- The document's sums; bytes as digits; the laws that both sums are the document's. -/
import Derived.Test.YtmolpgnekcfimaaS7
namespace Go.Proofs.Ytmolpgnekcfimaa.S
open Go.RowKit

open Sh
theorem res_cell {v : Value} : res1 [v] = v := rfl

set_option maxRecDepth 100000 in
set_option maxHeartbeats 2000000 in
theorem refSum256_any (l : List UInt8) (w : World) (hl : l.length ≤ 200000000000000) : Fn P 36 [.string (bstr l)] w [] (fun v Y => Y = [] ∧ v = .agg ((sha T256 l).map byteV).toArray) := by
  refine Fn.of 27 [.cell 2 63] Go.Proofs.Try.func36 rfl rfl rfl rfl ?_
  refine T.seq ?_
  refine T.region ?_
  refine TL.cons rfl (T1.allocN 32 zr_63 rfl (fun b2 => ?_))
  refine TL.nil ?_
  refine T.seq ?_
  refine T.region ?_
  refine TL.cons rfl (V1.t (V1.buildF pl_96 zr_96 (.one rfl (by (conv => lhs; whnf) <;> rfl) rfl (.one rfl (by (conv => lhs; whnf) <;> rfl) rfl (.one rfl (by (conv => lhs; whnf) <;> rfl) rfl .nil))) (by repeat (first | exact FillL.nil | exact SetN.done | apply SetN.here | apply SetN.there | apply FillL.cons))) ?_)
  refine TL.cons rfl (T1.allocN 16 zr_96 rfl (fun b3 => ?_))
  refine TL.cons rfl (T1.storeN rfl rfl sz_96 (ones rfl) (by repeat (first | exact Sub.one | apply Sub.there | apply Sub.far)) (by rfl) (by rfl) ?_)
  refine TL.nil ?_
  refine T.seq ?_
  refine T.region ?_
  refine TL.cons rfl (T1.buildSl1 (os := ((stL (upInit T256.init)).map w64).map Operand.const) (vs := (stL (upInit T256.init)).map w64) ty_93 sz_32 zr_32 (by decide) (by kernel_rfl) (Evs.consts _) rfl (ones rfl) (fun b8 => ?_))
  refine TL.cons rfl (V1.t (V1.fieldAddr fl_96_3 rfl) ?_)
  refine TL.cons rfl (T1.store1 (v := .slice (some ⟨b8, 0, none⟩) 8 8) rfl rfl sz_93 rfl (by repeat (first | exact Sub.one | apply Sub.there | apply Sub.far)) (Nat.zero_le _) (by repeat (first | exact SetAt.here | apply SetAt.there)) ?_)
  refine TL.nil ?_
  refine T.seq ?_
  refine T.region ?_
  refine TL.cons rfl (V1.t (V1.buildFA ty_94 sz_3 zr_94 (.one rfl (by (conv => lhs; whnf) <;> rfl) rfl (.one rfl (by (conv => lhs; whnf) <;> rfl) rfl (.one rfl (by (conv => lhs; whnf) <;> rfl) rfl (.one rfl (by (conv => lhs; whnf) <;> rfl) rfl (.one rfl (by (conv => lhs; whnf) <;> rfl) rfl (.one rfl (by (conv => lhs; whnf) <;> rfl) rfl (.one rfl (by (conv => lhs; whnf) <;> rfl) rfl (.one rfl (by (conv => lhs; whnf) <;> rfl) rfl (.one rfl (by (conv => lhs; whnf) <;> rfl) rfl (.one rfl (by (conv => lhs; whnf) <;> rfl) rfl (.one rfl (by (conv => lhs; whnf) <;> rfl) rfl (.one rfl (by (conv => lhs; whnf) <;> rfl) rfl .nil)))))))))))) (by repeat (first | exact FillL.nil | exact SetN.done | apply SetN.here | apply SetN.there | apply FillL.cons))) ?_)
  refine TL.cons rfl (V1.t (V1.fieldAddr fl_96_4 rfl) ?_)
  refine TL.cons rfl (T1.storeM (vs := [.int .i64 7, .int .i64 18, .int .i64 3, .int .i64 17, .int .i64 19, .int .i64 10, .int .i64 2, .int .i64 13, .int .i64 22, .int .i64 6, .int .i64 11, .int .i64 25]) rfl rfl sz_94 (ones rfl) (by repeat (first | exact Sub.one | apply Sub.there | apply Sub.far)) (by decide) (Nat.le_of_ble_eq_true rfl) (by rfl) ?_)
  refine TL.nil ?_
  refine T.seq ?_
  refine T.region ?_
  refine TL.cons rfl (V1.t (V1.move' (by (conv => lhs; whnf) <;> rfl)) ?_)
  refine TL.cons rfl (V1.t (V1.loadN (vs := [.int .i64 32, .int .i64 64, .int .i64 64, .slice (some ⟨b8, 0, none⟩) 8 8, .int .i64 7, .int .i64 18, .int .i64 3, .int .i64 17, .int .i64 19, .int .i64 10, .int .i64 2, .int .i64 13, .int .i64 22, .int .i64 6, .int .i64 11, .int .i64 25]) one_96 sz_96 rfl (RdN.whole (by repeat (first | exact Find.here | assumption | apply Find.there | apply Find.far))) (by rfl)) ?_)
  refine TL.cons rfl (T1.callX (X := [⟨b8, 0, (stL (upInit T256.init)).map w64, 8⟩]) has_39 rfl (refsum32_any _ b8 l hl) (by repeat (first | exact Take.nil | apply Take.one (by repeat (first | exact Pick.here | apply Pick.there | apply Pick.far)) | apply Take.seg (by repeat (first | exact PickS.last | exact PickS.one | exact PickS.here | exact PickS.nil | apply PickS.there | apply PickS.far)) | exact Take.last (by repeat (first | exact PickS.last | exact PickS.one | exact PickS.here | exact PickS.nil | apply PickS.there | apply PickS.far)))) (fun v Y hY => ?_))
  obtain ⟨Lr, hr, rfl⟩ := hY
  obtain ⟨bo, oo, co, zo, rfl, hco, hzo, rfl⟩ := hr.block (by intro h; have := congrArg List.length h; rw [List.length_map, sha_len] at this; simp at this)
  rw [show ((sha T256 l).map byteV).length = 32 from by rw [List.length_map, sha_len]] at hco ⊢
  dsimp only [List.cons_append, List.nil_append]
  refine TL.cons rfl (V1.t (V1.assign' (by (conv => lhs; whnf) <;> rfl)) ?_)
  refine TL.nil ?_
  refine T.seq ?_
  refine T.region ?_
  refine TL.cons rfl (V1.t (V1.buildA0 ty_63 sz_5 zr_63) ?_)
  refine TL.cons rfl (T1.allocN 32 zr_63 rfl (fun b5 => ?_))
  refine TL.cons rfl (T1.storeN rfl rfl sz_63 (ones rfl) (by repeat (first | exact Sub.one | apply Sub.there | apply Sub.far)) (by rfl) (by rfl) ?_)
  refine TL.nil ?_
  refine T.seq ?_
  refine T.seq ?_
  refine T.live (l := [(2, _), (4, _), (5, _)]) (.cons (by (conv => lhs; whnf) <;> rfl) (.cons (by (conv => lhs; whnf) <;> rfl) (.cons (by (conv => lhs; whnf) <;> rfl) .nil))) (fun e_ => ?_)
  refine T.region ?_
  refine TL.cons rfl (V1.t (V1.assign' (by (conv => lhs; whnf) <;> rfl)) ?_)
  refine TL.nil ?_
  refine T.block ?_
  refine T.loopL (σ := Nat) (l0 := [(2, _), (4, _), (5, _)]) (fun x => [(6, .int .i64 (x : Nat))]) (fun x L => L = ⟨b5, 0, ((sha T256 l).take x).map byteV ++ List.replicate (32 - x) (.int .u8 0), 32⟩ :: ⟨bo, oo, (sha T256 l).map byteV, zo⟩ :: ⟨b2, 0, List.replicate 32 (.int .u8 0), 32⟩ :: [] ∧ x ≤ 32) (fun x => 32 - x) 0 (.cons rfl .nil) (.cons (by (conv => lhs; whnf) <;> rfl) (.cons (by (conv => lhs; whnf) <;> rfl) (.cons (by (conv => lhs; whnf) <;> rfl) .nil))) (by repeat (first | exact Take.nil | apply Take.one (by repeat (first | exact Pick.here | apply Pick.there | apply Pick.far)) | apply Take.seg (by repeat (first | exact PickS.last | exact PickS.one | exact PickS.here | exact PickS.nil | apply PickS.there | apply PickS.far)) | exact Take.last (by repeat (first | exact PickS.last | exact PickS.one | exact PickS.here | exact PickS.nil | apply PickS.there | apply PickS.far)))) (⟨rfl, Nat.zero_le _⟩) ?_
  rintro i e_ L ⟨rfl, hi⟩
  refine T.seq ?_
  refine T.seq ?_
  refine T.region ?_
  refine TL.cons rfl (V1.t (V1.move' (by (conv => lhs; whnf) <;> rfl)) ?_)
  refine TL.cons rfl (T1.ltI_split rfl rfl (fun h7_1 => ?_) (fun h7_1 => ?_))
  ·
    refine TL.nil ?_
    refine T.cond_t rfl ?_
    refine T.skip ?_
    refine T.seq ?_
    refine T.block ?_
    refine T.region ?_
    refine TL.cons rfl (V1.t (V1.move' (by (conv => lhs; whnf) <;> rfl)) ?_)
    refine TL.cons rfl (V1.t (V1.move' (by (conv => lhs; whnf) <;> rfl)) ?_)
    refine TL.cons rfl (V1.t (V1.move' (by (conv => lhs; whnf) <;> rfl)) ?_)
    refine TL.cons rfl (V1.t (V1.indexAddrS ty_33 sz_5 rfl rfl (by omega) (by omega)) ?_)
    refine TL.cons rfl (V1.t (V1.load1 one_5 rfl (show Rd _ _ ⟨bo, oo + i * 1, none⟩ (byteV ((sha T256 l).getD i 0)) from by rw [Nat.mul_one]; exact Rd.at (by repeat (first | exact Find.here | assumption | apply Find.there | apply Find.far)) (by rw [List.getElem?_map, getD_get 0 (by rw [sha_len]; omega)]; rfl))) ?_)
    refine TL.cons rfl (V1.t (V1.indexAddrA ty_63 sz_5 rfl rfl (by omega) (by omega)) ?_)
    refine TL.cons rfl (T1.storeE (o := 0 + i * 1) (cells := ((sha T256 l).take i).map byteV ++ List.replicate (32 - i) (.int .u8 0)) (cells' := ((sha T256 l).take (i + 1)).map byteV ++ List.replicate (32 - (i + 1)) (.int .u8 0)) rfl rfl sz_5 rfl (by rw [show 0 + i * 1 - 0 = i from by omega]; exact fill_set 0 (show (sha T256 l).length = 32 from sha_len _ _) (by omega)) (by repeat (first | exact Sub.one | apply Sub.there | apply Sub.far)) (Nat.zero_le _) (by rw [List.length_append, List.length_map, List.length_take, List.length_replicate, sha_len]; omega) ?_)
    refine TL.nil ?_
    refine T.region ?_
    refine TL.cons rfl (V1.t (V1.move' (by (conv => lhs; whnf) <;> rfl)) ?_)
    refine TL.cons rfl (V1.t (V1.add rfl rfl (wrap_i64 _ (by omega) (by omega))) ?_)
    refine TL.cons rfl (V1.t (V1.assign' (by (conv => lhs; whnf) <;> rfl)) ?_)
    refine TL.nil ?_
    exact ⟨i + 1, _, _, (by simp only; omega), (.cons rfl .nil), (.cons rfl (.cons rfl (.cons rfl .nil))), (by repeat (first | exact Take.nil | apply Take.one (by repeat (first | exact Pick.here | apply Pick.there | apply Pick.far)) | apply Take.seg (by repeat (first | exact PickS.last | exact PickS.one | exact PickS.here | exact PickS.nil | apply PickS.there | apply PickS.far)) | exact Take.last (by repeat (first | exact PickS.last | exact PickS.one | exact PickS.here | exact PickS.nil | apply PickS.there | apply PickS.far)))), ⟨rfl, by omega⟩⟩
  ·
    obtain rfl : i = 32 := by omega
    rw [fill_end (show (sha T256 l).length = 32 from sha_len _ _)]
    refine TL.nil ?_
    refine T.cond_f rfl ?_
    refine T.exit ?_
    refine T.seq ?_
    refine T.region ?_
    refine TL.cons rfl (V1.t (V1.loadN one_63 sz_63 rfl (RdN.whole (by repeat (first | exact Find.here | assumption | apply Find.there | apply Find.far))) (by rw [List.length_map, sha_len])) ?_)
    refine TL.cons rfl (T1.storeN rfl rfl sz_63 (one_bytes _) (by repeat (first | exact Sub.one | apply Sub.there | apply Sub.far)) (by rw [List.length_map, sha_len, List.length_replicate]) (by rw [List.length_map, sha_len]) ?_)
    refine TL.nil ?_
    refine T.ret ?_
    exact ⟨_, [], _, .cons (.cellN (by (conv => lhs; whnf) <;> rfl) one_63 sz_63 (RdN.whole (by repeat (first | exact Find.here | assumption | apply Find.there | apply Find.far))) (by rw [List.length_map, sha_len])) .nil, Take.nil, rfl, rfl⟩

def hexD : List UInt8 := [48, 49, 50, 51, 52, 53, 54, 55, 56, 57, 97, 98, 99, 100, 101, 102]
def hexB (c : UInt8) : List UInt8 := (hexD.drop (c.toNat / 16)).take (c.toNat / 16 + 1 - c.toNat / 16) ++ (hexD.drop (c.toNat % 16)).take (c.toNat % 16 + 1 - c.toNat % 16)
def hexL (p : List UInt8) : List UInt8 := p.flatMap hexB
theorem hexB_len (c : UInt8) : (hexB c).length ≤ 2 := by
  unfold hexB
  rw [List.length_append, List.length_take, List.length_take]; omega
theorem hexL_len : ∀ p : List UInt8, (hexL p).length ≤ 2 * p.length
  | [] => by simp [hexL]
  | c :: p => by
    have h1 := hexL_len p
    have h2 := hexB_len c
    show (hexB c ++ hexL p).length ≤ _
    rw [List.length_append, List.length_cons]; omega
theorem hexL_take {p : List UInt8} {k : Nat} {c : UInt8} (h : p[k]? = some c) : hexL (p.take k) ++ hexB c = hexL (p.take (k + 1)) := by
  unfold hexL
  rw [List.take_add_one, h, List.flatMap_append]; simp
theorem PartR.byte {C : Ctx} {w0 : World} {Ps L : List Blk} {a : Option Addr} {n c : Nat} {p : List UInt8} (h : PartR w0 Ps (.slice a n c) p) (h0 : C.w0 = w0) (hm : C.M = []) (hL : ∀ B ∈ Ps, B ∈ L) {k : Nat} {x : UInt8} (hk : p[k]? = some x) :
    ∃ b o, a = some ⟨b, o, none⟩ ∧ Rd C L ⟨b, o + k * 1, none⟩ (byteV x) := by
  have hkl : k < p.length := (List.getElem?_eq_some_iff.1 hk).1
  rcases (h.src C h0 hm L hL).inv _ _ _ rfl with h0 | ⟨b, o, h0, hr⟩
  · omega
  · refine ⟨b, o, h0, ?_⟩
    rw [Nat.mul_one]
    exact hr k _ (by rw [List.getElem?_map, hk]; rfl)

set_option maxRecDepth 100000 in
theorem hex_abc256 : hexL (sha T256 [97, 98, 99]) = [98, 97, 55, 56, 49, 54, 98, 102, 56, 102, 48, 49, 99, 102, 101, 97, 52, 49, 52, 49, 52, 48, 100, 101, 53, 100, 97, 101, 50, 50, 50, 51, 98, 48, 48, 51, 54, 49, 97, 51, 57, 54, 49, 55, 55, 97, 57, 99, 98, 52, 49, 48, 102, 102, 54, 49, 102, 50, 48, 48, 49, 53, 97, 100] := by decide +kernel
set_option maxRecDepth 100000 in
theorem hex_abc512a : hexL ((sha T512 [97, 98, 99]).take 8) = [100, 100, 97, 102, 51, 53, 97, 49, 57, 51, 54, 49, 55, 97, 98, 97] := by decide +kernel
set_option maxRecDepth 100000 in
theorem hex_abc512b : hexL ((sha T512 [97, 98, 99]).drop 56) = [50, 97, 57, 97, 99, 57, 52, 102, 97, 53, 52, 99, 97, 52, 57, 102] := by decide +kernel

theorem part_of {w0 : World} {Ps : List Blk} {b o c n size : Nat} {cells : List Value} {p : List UInt8} (hB : (⟨b, 0, cells, size⟩ : Blk) ∈ Ps) (hn : p.length = n) (hp : (cells.drop o).take n = p.map byteV) : PartR w0 Ps (.slice (some ⟨b, 0 + o, none⟩) n c) p := by
  subst hn; exact PartR.piece hB hp

end Go.Proofs.Ytmolpgnekcfimaa.S
