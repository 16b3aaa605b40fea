/- Somebody's knowledge, made of what came; the first example. -/
import Derived.Test.YtlpkcbkflfbclaaDoorT12
import Derived.Test.YtlpkcbkflfbclaaDoorTmSpec
import Derived.Test.YtlpkcbkflfbclaaDoorTmMem
namespace Go.Proofs.YtlpkcbkflfbclaaDoor.S
open Go.RowKit

theorem tmTy : TmTy P 26 23 3 9 := ⟨by kernel_rfl, ty_23, by kernel_rfl, by kernel_rfl, by kernel_rfl, by kernel_rfl, by kernel_rfl, by kernel_rfl, by rw [show P.bytesOf 26 = 48 from by kernel_rfl]; decide⟩
theorem ce_ts : P.cellTypes P.depth 26 = some [3, 9, 23] := by kernel_rfl
section
variable {C : Ctx} {e : Env} {L : List Blk} {dst : Option Tmp} {ty : TypeId} {pos : String} {after : Array Edge} {guard : Option (Nat × Bool)}
theorem V1.neNil {t yt el : TypeId} {x y : Operand} {a : Addr} (hT : C.P.underlying t = some (.pointer el)) (hx : ev C.n e x = .pointer (some a)) (hy : ev C.n e y = .pointer none) : V1 C ⟨dst, .binOp .neq t x y yt, ty, pos, after, guard⟩ e L (.bool true) :=
  V1.run (s := do eqGuard .neq t x y (ev C.n e x) (ev C.n e y); binOp .neq t (ev C.n e x) (ev C.n e y)) rfl (fun w _ => by
    rw [hx, hy]
    show (do pure (Value.bool (!(← Op.equal t (.pointer (some a)) (.pointer none)))) : Sem Value).run C.P w = _
    rw [run_bind (run_eqNil hT a w)]; rfl)
end
theorem New_kn (w0 : World) (Ps : List Blk) {ts : List Tm} {a : Option Addr} {c n : Nat} {us : List Value} (hn : n = ts.length) (hr : RowR w0 Ps 3 (.slice a n c) n us) (ht : TmsR w0 Ps ts us) (hc : ∀ t ∈ ts, chk t = 0) (hf : nparts ts ≤ 1000) :
    FnG P 19 [.slice a n c] w0 Ps [] fun v Y => ∃ kb l, v = .tuple #[.pointer (some ⟨kb, 0, none⟩), .int .i64 0] ∧ KnO w0 Ps kb l Y ∧ Kn ts l := by
  subst hn
  have := nparts_len ts
  refine (New_any w0 Ps hr ht (by omega)).mono ?_
  rintro v Y (⟨e, he, _, _, hl⟩ | ⟨kb, l, rfl, hk, hl⟩)
  · exact absurd (Kn.nil.zero hl hc (by rw [List.nil_append]; omega)) he
  · exact ⟨kb, l, rfl, hk, (Kn.new hl hc (by omega)).2⟩
theorem Makes_k {w0 : World} {Ps : List Blk} {kb : Nat} {l ts : List Tm} {Y : List Blk} (hk : KnO w0 Ps kb l Y) (hn : Kn ts l) (Qs : List Blk) {t : Tm} {ct : List Value} (hx : TmR w0 Qs t ct) : FnV P 20 [.pointer (some ⟨kb, 0, none⟩), .agg ct.toArray] w0 (Y ++ (Qs ++ Ps)) fun v => ∃ r, v = .bool r ∧ (r = true ↔ Ans ts t) := by
  refine (Makes_kn w0 (Qs ++ Ps) (hk.more (Inc.skip Inc.refl)) t ct (hx.more (Inc.skip Inc.here))).mono ?_
  rintro v Y' ⟨h1, r, rfl, h2⟩
  exact ⟨h1, r, rfl, by rw [h2, hn.ans]⟩
set_option maxRecDepth 100000 in
theorem seal_any (w0 : World) (Ps : List Blk) (k s : List UInt8) : FnG P 47 [.string (bstr k), .string (bstr s)] w0 Ps [] (fun v Y => ∃ cy, v = .agg cy.toArray ∧ TmR w0 (Y ++ Ps) (.mk 3 [] [.mk 1 k [], .mk 1 s []]) cy) := by
  refine FnG.of 11 [.cell 4 26] Go.Proofs.Tryd.func47 rfl rfl rfl rfl (fun G hG => ?_)
  refine T.seq ?_
  refine T.region ?_
  refine TL.cons rfl (T1.allocN 3 zr_26 rfl (fun b4 => ?_))
  refine TL.nil ?_
  refine T.seq ?_
  refine T.region ?_
  refine TL.cons rfl (V1.t (V1.move' (by (conv => lhs; whnf) <;> rfl)) ?_)
  refine TL.cons rfl (T1.callV has_12 rfl rfl (Of_any w0 Ps k) (by repeat (first | exact Inc.nil | assumption | exact Inc.refl | exact Inc.here | apply Inc.app | apply Inc.cons (by repeat (first | exact Find.here | assumption | apply Find.there | apply Find.far)) | apply Inc.skip1 | apply Inc.skip)) (fun v_ hv => ?_))
  obtain rfl := hv
  refine TL.cons rfl (V1.t (V1.move' (by (conv => lhs; whnf) <;> rfl)) ?_)
  refine TL.cons rfl (T1.callV has_12 rfl rfl (Of_any w0 Ps s) (by repeat (first | exact Inc.nil | assumption | exact Inc.refl | exact Inc.here | apply Inc.app | apply Inc.cons (by repeat (first | exact Find.here | assumption | apply Find.there | apply Find.far)) | apply Inc.skip1 | apply Inc.skip)) (fun v_ hv => ?_))
  obtain rfl := hv
  refine TL.cons rfl (T1.buildTwo (cs := [.int .i64 1, .string (bstr k), .slice none 0 0]) (ds := [.int .i64 1, .string (bstr s), .slice none 0 0]) ty_23 sz_26 zr_26 (by decide) rfl rfl rfl rfl (fun b9 => ?_))
  refine TL.cons rfl (V1.t (V1.buildF pl_26 zr_26 (.one rfl (by (conv => lhs; whnf) <;> rfl) rfl (.one rfl (by (conv => lhs; whnf) <;> rfl) rfl .nil)) (by repeat (first | exact FillL.nil | exact SetN.done | apply SetN.here | apply SetN.there | apply FillL.cons))) ?_)
  refine TL.cons rfl (T1.storeN rfl rfl sz_26 (ones rfl) (by repeat (first | exact Sub.one | apply Sub.there | apply Sub.far)) (by rfl) (by rfl) ?_)
  refine TL.nil ?_
  refine T.ret ?_
  exact ⟨_, ⟨⟨b9, some 26⟩, 0, [.int .i64 1, .string (bstr k), .slice none 0 0] ++ [.int .i64 1, .string (bstr s), .slice none 0 0], 2 * 3⟩ :: G, _, .cons (.cellN (by (conv => lhs; whnf) <;> rfl) one_26 sz_26 (RdN.whole (by repeat (first | exact Find.here | assumption | apply Find.there | apply Find.far))) (by rfl)) .nil, (by repeat (first | exact Take.nil | apply Take.one (by repeat (first | exact Pick.here | apply Pick.there | apply Pick.far)) | apply Take.seg (by repeat (first | exact PickS.last | exact PickS.one | exact PickS.here | exact PickS.nil | apply PickS.there | apply PickS.far)) | exact Take.last (by repeat (first | exact PickS.last | exact PickS.one | exact PickS.here | exact PickS.nil | apply PickS.there | apply PickS.far)))), [⟨⟨b9, some 26⟩, 0, [.int .i64 1, .string (bstr k), .slice none 0 0] ++ [.int .i64 1, .string (bstr s), .slice none 0 0], 2 * 3⟩], rfl, _, rfl, TmR.mkN (nm := []) (n := 2) rfl (RowR.own (List.mem_cons_self ..) rfl) (by decide) (TmsR.cons TmR.atom (TmsR.one TmR.atom))⟩

set_option maxRecDepth 100000 in
theorem opens_any (w0 : World) : FnV P 24 [] w0 [] (fun v => v = .bool true) := by
  refine FnV.of 44 [.tmp 0] Go.Proofs.Tryd.func24 rfl rfl rfl rfl (fun G hG => ?_)
  refine T.seq ?_
  refine T.region ?_
  refine TL.cons rfl (V1.t (V1.assign' (by (conv => lhs; whnf) <;> rfl)) ?_)
  refine TL.nil ?_
  refine T.seq ?_
  refine T.region ?_
  refine TL.cons rfl (T1.callV has_12 rfl rfl (Of_any w0 [] [107]) (by repeat (first | exact Inc.nil | assumption | exact Inc.refl | exact Inc.here | apply Inc.app | apply Inc.cons (by repeat (first | exact Find.here | assumption | apply Find.there | apply Find.far)) | apply Inc.skip1 | apply Inc.skip)) (fun v_ hv => ?_))
  obtain rfl := hv
  refine TL.cons rfl (T1.callC has_47 rfl rfl (seal_any w0 [] [107] [97]) (by repeat (first | exact Inc.nil | assumption | exact Inc.refl | exact Inc.here | apply Inc.app | apply Inc.cons (by repeat (first | exact Find.here | assumption | apply Find.there | apply Find.far)) | apply Inc.skip1 | apply Inc.skip)) (fun v_ Y1 hY => ?_))
  obtain ⟨cy1, rfl, hs1⟩ := hY
  refine TL.cons rfl (T1.callC has_47 rfl rfl (seal_any w0 [] [108] [98]) (by repeat (first | exact Inc.nil | assumption | exact Inc.refl | exact Inc.here | apply Inc.app | apply Inc.cons (by repeat (first | exact Find.here | assumption | apply Find.there | apply Find.far)) | apply Inc.skip1 | apply Inc.skip)) (fun v_ Y2 hY => ?_))
  obtain ⟨cy2, rfl, hs2⟩ := hY
  refine TL.cons rfl (T1.buildMany (vss := [[.int .i64 1, .string (bstr [107]), .slice none 0 0], cy1, cy2]) (os := [.tmp 4, .tmp 5, .tmp 6]) ty_23 sz_26 zr_26 (by decide) rfl (.cons rfl (.cons rfl (.cons rfl .nil))) rfl (by intro l hl; simp only [List.mem_cons, List.not_mem_nil, or_false] at hl; rcases hl with rfl | rfl | rfl; rfl; exact hs1.len; exact hs2.len) (fun b7 => ?_))
  refine TL.cons rfl (T1.callC has_19 rfl rfl (New_kn w0 ((⟨⟨b7, some 26⟩, 0, [[.int .i64 1, .string (bstr [107]), .slice none 0 0], cy1, cy2].flatten, 3 * 3⟩ : Blk) :: (Y2 ++ Y1)) (ts := opTs) (n := 3) rfl (RowR.own (List.mem_cons_self ..) (by simp [hs1.len, hs2.len])) (TmsR.cons TmR.atom (TmsR.cons (hs1.more (by intro B_ hB_; simp only [List.mem_append, List.mem_cons, List.not_mem_nil, or_false] at hB_ ⊢; grind)) (TmsR.cons (hs2.more (by intro B_ hB_; simp only [List.mem_append, List.mem_cons, List.not_mem_nil, or_false] at hB_ ⊢; grind)) TmsR.nil))) op_chk op_few) (by repeat (first | exact Inc.nil | assumption | exact Inc.refl | exact Inc.here | apply Inc.app | apply Inc.cons (by repeat (first | exact Find.here | assumption | apply Find.there | apply Find.far)) | apply Inc.skip1 | apply Inc.skip)) (fun v_ Y3 hY => ?_))
  obtain ⟨kb, l, rfl, hkn, hk⟩ := hY
  refine TL.cons rfl (V1.t (V1.move' (by (conv => lhs; whnf) <;> rfl)) ?_)
  refine TL.cons rfl (V1.t (V1.extract rfl (by rfl)) ?_)
  refine TL.cons rfl (V1.t (V1.extract rfl (by rfl)) ?_)
  refine TL.cons rfl (V1.t (V1.assign' (by (conv => lhs; whnf) <;> rfl)) ?_)
  refine TL.cons rfl (V1.t (V1.assign' (by (conv => lhs; whnf) <;> rfl)) ?_)
  refine TL.nil ?_
  refine T.seq ?_
  refine T.region ?_
  refine TL.cons rfl (V1.t (V1.move' (by (conv => lhs; whnf) <;> rfl)) ?_)
  refine TL.cons rfl (V1.t (V1.eqI (r := true) rfl rfl (by decide)) ?_)
  refine TL.cons rfl (V1.t (V1.move' (by (conv => lhs; whnf) <;> rfl)) ?_)
  refine TL.cons rfl (V1.t (V1.move' (by (conv => lhs; whnf) <;> rfl)) ?_)
  refine TL.cons rfl (V1.t (V1.neNil ty_35 rfl rfl) ?_)
  refine TL.cons rfl (V1.t (V1.pick rfl (by (conv => lhs; whnf) <;> rfl)) ?_)
  refine TL.cons rfl (V1.t (V1.move' (by (conv => lhs; whnf) <;> rfl)) ?_)
  refine TL.cons rfl (V1.t (V1.move' (by (conv => lhs; whnf) <;> rfl)) ?_)
  refine TL.cons rfl (T1.callV has_12 rfl rfl (Of_any w0 [] [97]) (by repeat (first | exact Inc.nil | assumption | exact Inc.refl | exact Inc.here | apply Inc.app | apply Inc.cons (by repeat (first | exact Find.here | assumption | apply Find.there | apply Find.far)) | apply Inc.skip1 | apply Inc.skip)) (fun v_ hv => ?_))
  obtain rfl := hv
  refine TL.cons rfl (T1.callV has_20 rfl rfl (Makes_k hkn hk [] (ct := [.int .i64 1, .string (bstr [97]), .slice none 0 0]) TmR.atom) (by repeat (first | exact Inc.nil | assumption | exact Inc.refl | exact Inc.here | apply Inc.app | apply Inc.cons (by repeat (first | exact Find.here | assumption | apply Find.there | apply Find.far)) | apply Inc.skip1 | apply Inc.skip)) (fun v_ hv => ?_))
  obtain ⟨r, rfl, hr⟩ := hv
  obtain rfl : r = true := hr.2 op_ansA
  refine TL.cons rfl (V1.t (V1.pick rfl (by (conv => lhs; whnf) <;> rfl)) ?_)
  refine TL.cons rfl (V1.t (V1.move' (by (conv => lhs; whnf) <;> rfl)) ?_)
  refine TL.cons rfl (V1.t (V1.move' (by (conv => lhs; whnf) <;> rfl)) ?_)
  refine TL.cons rfl (T1.callV has_12 rfl rfl (Of_any w0 [] [98]) (by repeat (first | exact Inc.nil | assumption | exact Inc.refl | exact Inc.here | apply Inc.app | apply Inc.cons (by repeat (first | exact Find.here | assumption | apply Find.there | apply Find.far)) | apply Inc.skip1 | apply Inc.skip)) (fun v_ hv => ?_))
  obtain rfl := hv
  refine TL.cons rfl (T1.callV has_20 rfl rfl (Makes_k hkn hk [] (ct := [.int .i64 1, .string (bstr [98]), .slice none 0 0]) TmR.atom) (by repeat (first | exact Inc.nil | assumption | exact Inc.refl | exact Inc.here | apply Inc.app | apply Inc.cons (by repeat (first | exact Find.here | assumption | apply Find.there | apply Find.far)) | apply Inc.skip1 | apply Inc.skip)) (fun v_ hv => ?_))
  obtain ⟨r, rfl, hr⟩ := hv
  obtain rfl : r = false := (by cases r; rfl; exact absurd (hr.1 rfl) op_ansB)
  refine TL.cons rfl (V1.t (V1.not rfl rfl) ?_)
  refine TL.cons rfl (V1.t (V1.pick rfl (by (conv => lhs; whnf) <;> rfl)) ?_)
  refine TL.cons rfl (V1.t (V1.move' (by (conv => lhs; whnf) <;> rfl)) ?_)
  refine TL.cons rfl (V1.t (V1.move' (by (conv => lhs; whnf) <;> rfl)) ?_)
  refine TL.cons rfl (T1.callV has_12 rfl rfl (Of_any w0 [] [97]) (by repeat (first | exact Inc.nil | assumption | exact Inc.refl | exact Inc.here | apply Inc.app | apply Inc.cons (by repeat (first | exact Find.here | assumption | apply Find.there | apply Find.far)) | apply Inc.skip1 | apply Inc.skip)) (fun v_ hv => ?_))
  obtain rfl := hv
  refine TL.cons rfl (T1.callV has_12 rfl rfl (Of_any w0 [] [107]) (by repeat (first | exact Inc.nil | assumption | exact Inc.refl | exact Inc.here | apply Inc.app | apply Inc.cons (by repeat (first | exact Find.here | assumption | apply Find.there | apply Find.far)) | apply Inc.skip1 | apply Inc.skip)) (fun v_ hv => ?_))
  obtain rfl := hv
  refine TL.cons rfl (T1.buildTwo (cs := [.int .i64 1, .string (bstr [97]), .slice none 0 0]) (ds := [.int .i64 1, .string (bstr [107]), .slice none 0 0]) ty_23 sz_26 zr_26 (by decide) rfl rfl rfl rfl (fun b32 => ?_))
  refine TL.cons rfl (T1.callC has_31 rfl rfl (Pairs_any w0 [⟨⟨b32, some 26⟩, 0, [.int .i64 1, .string (bstr [97]), .slice none 0 0] ++ [.int .i64 1, .string (bstr [107]), .slice none 0 0], 2 * 3⟩] (ts := [opA, opK]) (RowR.own (List.mem_cons_self ..) rfl) (TmsR.cons TmR.atom (TmsR.one TmR.atom)) (by decide)) (by repeat (first | exact Inc.nil | assumption | exact Inc.refl | exact Inc.here | apply Inc.app | apply Inc.cons (by repeat (first | exact Find.here | assumption | apply Find.there | apply Find.far)) | apply Inc.skip1 | apply Inc.skip)) (fun v_ Y4 hY => ?_))
  obtain ⟨cp, rfl, hcp⟩ := hY
  refine TL.cons rfl (T1.callV has_20 rfl rfl (Makes_k hkn hk _ hcp) (by repeat (first | exact Inc.nil | assumption | exact Inc.refl | exact Inc.here | apply Inc.app | apply Inc.cons (by repeat (first | exact Find.here | assumption | apply Find.there | apply Find.far)) | apply Inc.skip1 | apply Inc.skip)) (fun v_ hv => ?_))
  obtain ⟨r, rfl, hr⟩ := hv
  obtain rfl : r = true := hr.2 op_ansP
  refine TL.cons rfl (V1.t (V1.pick rfl (by (conv => lhs; whnf) <;> rfl)) ?_)
  refine TL.cons rfl (V1.t (V1.move' (by (conv => lhs; whnf) <;> rfl)) ?_)
  refine TL.cons rfl (V1.t (V1.move' (by (conv => lhs; whnf) <;> rfl)) ?_)
  refine TL.cons rfl (T1.callC has_25 rfl rfl (Terms_any w0 _ hkn.r) (by repeat (first | exact Inc.nil | assumption | exact Inc.refl | exact Inc.here | apply Inc.app | apply Inc.cons (by repeat (first | exact Find.here | assumption | apply Find.there | apply Find.far)) | apply Inc.skip1 | apply Inc.skip)) (fun v_ Y5 hY => ?_))
  obtain ⟨a5, c5, vs5, rfl, _, _⟩ := hY
  refine TL.cons rfl (V1.t (V1.lenSl ty_23 rfl) ?_)
  refine TL.cons rfl (V1.t (V1.eqI (r := true) rfl rfl (by rw [op_len hk hkn.srt]; decide)) ?_)
  refine TL.cons rfl (V1.t (V1.pick rfl (by (conv => lhs; whnf) <;> rfl)) ?_)
  refine TL.cons rfl (V1.t (V1.move' (by (conv => lhs; whnf) <;> rfl)) ?_)
  refine TL.cons rfl (V1.t (V1.pick rfl (by (conv => lhs; whnf) <;> rfl)) ?_)
  refine TL.cons rfl (V1.t (V1.assign' (by (conv => lhs; whnf) <;> rfl)) ?_)
  refine TL.nil ?_
  refine T.ret ?_
  exact ⟨_, G, _, .cons (.tmp (by (conv => lhs; whnf) <;> rfl)) .nil, (by repeat (first | exact Take.nil | apply Take.one (by repeat (first | exact Pick.here | apply Pick.there | apply Pick.far)) | apply Take.seg (by repeat (first | exact PickS.last | exact PickS.one | exact PickS.here | exact PickS.nil | apply PickS.there | apply PickS.far)) | exact Take.last (by repeat (first | exact PickS.last | exact PickS.one | exact PickS.here | exact PickS.nil | apply PickS.there | apply PickS.far)))), rfl, rfl⟩

end Go.Proofs.YtlpkcbkflfbclaaDoor.S
