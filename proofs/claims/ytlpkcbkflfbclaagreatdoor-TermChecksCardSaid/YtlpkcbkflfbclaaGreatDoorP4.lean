/- Terms are read at all. -/
import Derived.Test.YtlpkcbkflfbclaaGreatDoorP3
import Derived.Test.YtlpkcbkflfbclaaGreatDoorT12
namespace Go.Proofs.YtlpkcbkflfbclaaGreatDoor.S
open Go.RowKit

def rdK : List UInt8 := [107, 101, 121]
def rdAs : List Tm := [.mk 7 [] [(.mk 1 [97] []), .mk 5 [] [(.mk 1 [98] [])]], .mk 2 [] [(.mk 1 [120] []), .mk 3 [] [(.mk 1 [107] []), (.mk 1 [121] [])]]]
def rdBs : List Tm := [.mk 7 [] [(.mk 1 [98] []), .mk 5 [] [(.mk 1 [97] [])]], .mk 2 [] [(.mk 1 [120] []), .mk 3 [] [(.mk 1 [107] []), (.mk 1 [121] [])]]]
def rdA : Tm := .mk 4 rdK rdAs
def rdB : Tm := .mk 4 rdK rdBs
def rdC : List Tm := [(.mk 1 [97] []), (.mk 1 [98] []), (.mk 1 [99] [])]
theorem rd_chk : chk rdA = 0 ∧ chk rdB = 0 := by decide +kernel
theorem rd_txtA : txt rdA = [104, 107, 101, 121, 40, 126, 40, 97, 44, 94, 40, 98, 41, 41, 44, 112, 40, 120, 44, 115, 40, 107, 44, 121, 41, 41, 41] := by decide +kernel
theorem rd_txtB : txt rdB = [104, 107, 101, 121, 40, 126, 40, 98, 44, 94, 40, 97, 41, 41, 44, 112, 40, 120, 44, 115, 40, 107, 44, 121, 41, 41, 41] := by decide +kernel
theorem rd_txtN : txt (nrm rdA) = [104, 107, 101, 121, 40, 61, 40, 97, 44, 98, 41, 44, 112, 40, 120, 44, 115, 40, 107, 44, 121, 41, 41, 41] := by decide +kernel
theorem rd_txtC : txt (pairs rdC) = [112, 40, 97, 44, 112, 40, 98, 44, 99, 41, 41] := by decide +kernel
theorem rd_cmp : cmpT (nrm rdA) (nrm rdB) = 0 ∧ cmpT rdA rdB ≠ 0 := by decide +kernel
theorem rd_shp : shp rdA = true ∧ shp rdB = true ∧ shp (nrm rdA) = true ∧ (nrm rdA).size ≤ 100000 ∧ shp (pairs rdC) = true ∧ (pairs rdC).size ≤ 100000 := by decide +kernel
theorem Parse_at (w0 : World) (x : Tm) (s : List UInt8) (hs : txt x = s) (hck : chk x = 0) : FnG P 29 [.string (bstr s)] w0 [] [] (fun v Y => ∃ cs, v = .tuple #[.agg cs.toArray, .int .i64 0] ∧ TmR w0 Y x cs) := hs ▸ Parse_any w0 x hck
theorem TString_at (w0 : World) (Ps : List Blk) (x : Tm) (s : List UInt8) (hs : txt x = s) {cx : List Value} (hx_ : TmR w0 Ps x cx) (hsh : shp x = true) (hsz : x.size ≤ 100000) : FnV P 14 [.agg cx.toArray] w0 Ps (fun v => v = .string (bstr s)) := hs ▸ TString_any w0 Ps x hx_ hsh hsz

set_option maxRecDepth 100000 in
set_option maxHeartbeats 8000000 in
theorem reads_any (w0 : World) : FnV P 9 [] w0 [] (fun v => v = .bool true) := by
  refine FnV.of 56 [.tmp 0] Go.Proofs.Tryz.func9 rfl rfl rfl rfl (fun G hG => ?_)
  refine T.seq ?_
  refine T.region ?_
  refine TL.cons rfl (V1.t (V1.assign' z_D) ?_)
  refine TL.nil ?_
  refine T.seq ?_
  refine T.region ?_
  refine TL.cons rfl (T1.callC has_29 rfl rfl (Parse_at w0 rdA [104, 107, 101, 121, 40, 126, 40, 97, 44, 94, 40, 98, 41, 41, 44, 112, 40, 120, 44, 115, 40, 107, 44, 121, 41, 41, 41] rd_txtA rd_chk.1) z_E (fun v_ YA hY => ?_))
  obtain ⟨cs_, rfl, hA⟩ := hY
  obtain ⟨aA, cA, vsA, rfl, _, _, _⟩ := (show TmR w0 YA (.mk 4 rdK rdAs) cs_ from hA).inv
  refine TL.cons rfl (V1.t (V1.move' z_D) ?_)
  refine TL.cons rfl (V1.t (V1.extract rfl (by rfl)) ?_)
  refine TL.cons rfl (V1.t (V1.extract rfl (by rfl)) ?_)
  refine TL.cons rfl (T1.allocN 3 zr_24 rfl (fun b1 => ?_))
  refine TL.cons rfl (T1.storeN (vs := [.int .i64 4, .string (bstr rdK), .slice aA rdAs.length cA]) rfl rfl sz_24 (ones rfl) z_G (by rfl) (by rfl) ?_)
  refine TL.cons rfl (V1.t (V1.assign' z_D) ?_)
  refine TL.nil ?_
  refine T.seq ?_
  refine T.region ?_
  refine TL.cons rfl (T1.callC has_29 rfl rfl (Parse_at w0 rdB [104, 107, 101, 121, 40, 126, 40, 98, 44, 94, 40, 97, 41, 41, 44, 112, 40, 120, 44, 115, 40, 107, 44, 121, 41, 41, 41] rd_txtB rd_chk.2) z_E (fun v_ YB hY => ?_))
  obtain ⟨cs_, rfl, hB⟩ := hY
  obtain ⟨aB, cB, vsB, rfl, _, _, _⟩ := (show TmR w0 YB (.mk 4 rdK rdBs) cs_ from hB).inv
  refine TL.cons rfl (V1.t (V1.move' z_D) ?_)
  refine TL.cons rfl (V1.t (V1.extract rfl (by rfl)) ?_)
  refine TL.cons rfl (V1.t (V1.extract rfl (by rfl)) ?_)
  refine TL.cons rfl (T1.allocN 3 zr_24 rfl (fun b3 => ?_))
  refine TL.cons rfl (T1.storeN (vs := [.int .i64 4, .string (bstr rdK), .slice aB rdBs.length cB]) rfl rfl sz_24 (ones rfl) z_G (by rfl) (by rfl) ?_)
  refine TL.cons rfl (V1.t (V1.assign' z_D) ?_)
  refine TL.nil ?_
  refine T.seq ?_
  refine T.live (l := [(1, _), (2, _), (3, _), (4, _)]) (.cons z_D (.cons z_D (.cons z_D (.cons z_D .nil)))) (fun e_ => ?_)
  refine T.drawK (fun L_ => Find L_ (⟨b1, 0, [.int .i64 4, .string (bstr rdK), .slice aA rdAs.length cA], 3⟩ : Blk) ∧ Find L_ (⟨b3, 0, [.int .i64 4, .string (bstr rdK), .slice aB rdBs.length cB], 3⟩ : Blk) ∧ Inc YA L_ ∧ Inc YB L_) mixed ⟨z_C, z_C, z_E, z_E⟩ ?_
  refine TK.take 0 rfl (by decide +kernel) (by decide +kernel) (by decide +kernel) rfl (fun _ _ _ h => h) (fun L_ ⟨k1_, k2_, k3_, k4_⟩ => V1.move' z_D) ?_
  refine TK.take 1 rfl (by decide +kernel) (by decide +kernel) (by decide +kernel) rfl (fun _ _ _ h => h) (fun L_ ⟨k1_, k2_, k3_, k4_⟩ => V1.eqI (r := true) rfl rfl (by decide)) ?_
  refine TK.take 2 rfl (by decide +kernel) (by decide +kernel) (by decide +kernel) rfl (fun _ _ _ h => h) (fun L_ ⟨k1_, k2_, k3_, k4_⟩ => V1.move' z_D) ?_
  refine TK.take 3 rfl (by decide +kernel) (by decide +kernel) (by decide +kernel) rfl (fun _ _ _ h => h) (fun L_ ⟨k1_, k2_, k3_, k4_⟩ => V1.move' z_D) ?_
  refine TK.take 4 rfl (by decide +kernel) (by decide +kernel) (by decide +kernel) rfl (fun _ _ _ h => h) (fun L_ ⟨k1_, k2_, k3_, k4_⟩ => V1.eqI (r := true) rfl rfl (by decide)) ?_
  refine TK.take 5 rfl (by decide +kernel) (by decide +kernel) (by decide +kernel) rfl (fun _ _ _ h => h) (fun L_ ⟨k1_, k2_, k3_, k4_⟩ => V1.pick rfl z_D) ?_
  refine TK.take 6 rfl (by decide +kernel) (by decide +kernel) (by decide +kernel) rfl (fun _ _ _ h => h) (fun L_ ⟨k1_, k2_, k3_, k4_⟩ => V1.move' z_D) ?_
  refine TK.take 7 rfl (by decide +kernel) (by decide +kernel) (by decide +kernel) rfl (fun _ _ _ h => h) (fun L_ ⟨k1_, k2_, k3_, k4_⟩ => V1.loadN (vs := [.int .i64 4, .string (bstr rdK), .slice aA rdAs.length cA]) one_24 sz_24 rfl (RdN.whole (cells := [.int .i64 4, .string (bstr rdK), .slice aA rdAs.length cA]) z_C) rfl) ?_
  refine TK.one 8 (by decide +kernel) rfl rfl (T1.callC has_17 rfl rfl (Normal_any w0 rdA YA [.int .i64 4, .string (bstr rdK), .slice aA rdAs.length cA] hA rd_shp.1) z_E (fun v_ N1 hY => ?_))
  obtain ⟨k1_, rfl, hn1⟩ := hY
  refine ⟨⟨z_C, z_C, z_E, z_E⟩, ?_⟩
  refine TK.one 9 (by decide +kernel) rfl rfl (T1.callV has_14 rfl rfl (TString_at w0 (N1 ++ YA) (nrm rdA) [104, 107, 101, 121, 40, 61, 40, 97, 44, 98, 41, 44, 112, 40, 120, 44, 115, 40, 107, 44, 121, 41, 41, 41] rd_txtN hn1 rd_shp.2.2.1 rd_shp.2.2.2.1) z_E (fun v_ hv => ?_))
  obtain rfl := hv
  refine ⟨⟨z_C, z_C, z_E, z_E⟩, ?_⟩
  refine TK.take 10 rfl (by decide +kernel) (by decide +kernel) (by decide +kernel) rfl (fun _ _ _ h => h) (fun L_ ⟨k1_, k2_, k3_, k4_⟩ => V1.eqS (r := true) rfl rfl (decide_eq_true rfl)) ?_
  refine TK.take 11 rfl (by decide +kernel) (by decide +kernel) (by decide +kernel) rfl (fun _ _ _ h => h) (fun L_ ⟨k1_, k2_, k3_, k4_⟩ => V1.pick rfl z_D) ?_
  refine TK.take 12 rfl (by decide +kernel) (by decide +kernel) (by decide +kernel) rfl (fun _ _ _ h => h) (fun L_ ⟨k1_, k2_, k3_, k4_⟩ => V1.move' z_D) ?_
  refine TK.take 13 rfl (by decide +kernel) (by decide +kernel) (by decide +kernel) rfl (fun _ _ _ h => h) (fun L_ ⟨k1_, k2_, k3_, k4_⟩ => V1.loadN (vs := [.int .i64 4, .string (bstr rdK), .slice aA rdAs.length cA]) one_24 sz_24 rfl (RdN.whole (cells := [.int .i64 4, .string (bstr rdK), .slice aA rdAs.length cA]) z_C) rfl) ?_
  refine TK.take 15 rfl (by decide +kernel) (by decide +kernel) (by decide +kernel) rfl (fun _ _ _ h => h) (fun L_ ⟨k1_, k2_, k3_, k4_⟩ => V1.loadN (vs := [.int .i64 4, .string (bstr rdK), .slice aB rdBs.length cB]) one_24 sz_24 rfl (RdN.whole (cells := [.int .i64 4, .string (bstr rdK), .slice aB rdBs.length cB]) z_C) rfl) ?_
  refine TK.one 14 (by decide +kernel) rfl rfl (T1.callC has_17 rfl rfl (Normal_any w0 rdA YA [.int .i64 4, .string (bstr rdK), .slice aA rdAs.length cA] hA rd_shp.1) z_E (fun v_ N2 hY => ?_))
  obtain ⟨k2_, rfl, hn2⟩ := hY
  refine ⟨⟨z_C, z_C, z_E, z_E⟩, ?_⟩
  refine TK.one 16 (by decide +kernel) rfl rfl (T1.callC has_17 rfl rfl (Normal_any w0 rdB YB [.int .i64 4, .string (bstr rdK), .slice aB rdBs.length cB] hB rd_shp.2.1) z_E (fun v_ N3 hY => ?_))
  obtain ⟨k3_, rfl, hn3⟩ := hY
  refine ⟨⟨z_C, z_C, z_E, z_E⟩, ?_⟩
  refine TK.one 17 (by decide +kernel) rfl rfl (T1.callV has_30 rfl rfl (Compare_any w0 (nrm rdA) (nrm rdB) ((N2 ++ YA) ++ (N3 ++ YB)) _ _ (hn2.more Inc.here) (hn3.more (Inc.skip Inc.refl))) z_E (fun v_ hv => ?_))
  obtain rfl := hv
  rw [rd_cmp.1]
  refine ⟨⟨z_C, z_C, z_E, z_E⟩, ?_⟩
  refine TK.take 18 rfl (by decide +kernel) (by decide +kernel) (by decide +kernel) rfl (fun _ _ _ h => h) (fun L_ ⟨k1_, k2_, k3_, k4_⟩ => V1.eqI (r := true) rfl rfl (by decide)) ?_
  refine TK.take 19 rfl (by decide +kernel) (by decide +kernel) (by decide +kernel) rfl (fun _ _ _ h => h) (fun L_ ⟨k1_, k2_, k3_, k4_⟩ => V1.pick rfl z_D) ?_
  refine TK.take 20 rfl (by decide +kernel) (by decide +kernel) (by decide +kernel) rfl (fun _ _ _ h => h) (fun L_ ⟨k1_, k2_, k3_, k4_⟩ => V1.move' z_D) ?_
  refine TK.take 21 rfl (by decide +kernel) (by decide +kernel) (by decide +kernel) rfl (fun _ _ _ h => h) (fun L_ ⟨k1_, k2_, k3_, k4_⟩ => V1.loadN (vs := [.int .i64 4, .string (bstr rdK), .slice aA rdAs.length cA]) one_24 sz_24 rfl (RdN.whole (cells := [.int .i64 4, .string (bstr rdK), .slice aA rdAs.length cA]) z_C) rfl) ?_
  refine TK.take 22 rfl (by decide +kernel) (by decide +kernel) (by decide +kernel) rfl (fun _ _ _ h => h) (fun L_ ⟨k1_, k2_, k3_, k4_⟩ => V1.loadN (vs := [.int .i64 4, .string (bstr rdK), .slice aB rdBs.length cB]) one_24 sz_24 rfl (RdN.whole (cells := [.int .i64 4, .string (bstr rdK), .slice aB rdBs.length cB]) z_C) rfl) ?_
  refine TK.one 23 (by decide +kernel) rfl rfl (T1.callV has_30 rfl rfl (Compare_any w0 rdA rdB (YA ++ YB) [.int .i64 4, .string (bstr rdK), .slice aA rdAs.length cA] [.int .i64 4, .string (bstr rdK), .slice aB rdBs.length cB] (hA.more Inc.here) (hB.more (Inc.skip Inc.refl))) z_E (fun v_ hv => ?_))
  obtain rfl := hv
  refine ⟨⟨z_C, z_C, z_E, z_E⟩, ?_⟩
  refine TK.take 24 rfl (by decide +kernel) (by decide +kernel) (by decide +kernel) rfl (fun _ _ _ h => h) (fun L_ ⟨k1_, k2_, k3_, k4_⟩ => V1.neI (r := true) rfl rfl (decide_eq_true rd_cmp.2)) ?_
  refine TK.take 25 rfl (by decide +kernel) (by decide +kernel) (by decide +kernel) rfl (fun _ _ _ h => h) (fun L_ ⟨k1_, k2_, k3_, k4_⟩ => V1.pick rfl z_D) ?_
  refine TK.take 26 rfl (by decide +kernel) (by decide +kernel) (by decide +kernel) rfl (fun _ _ _ h => h) (fun L_ ⟨k1_, k2_, k3_, k4_⟩ => V1.move' z_D) ?_
  refine TK.one 27 (by decide +kernel) rfl rfl (T1.callV has_32 rfl rfl (Of_any w0 [] [97]) z_E (fun v_ hv => ?_))
  obtain rfl := hv
  refine ⟨⟨z_C, z_C, z_E, z_E⟩, ?_⟩
  refine TK.one 28 (by decide +kernel) rfl rfl (T1.callV has_32 rfl rfl (Of_any w0 [] [98]) z_E (fun v_ hv => ?_))
  obtain rfl := hv
  refine ⟨⟨z_C, z_C, z_E, z_E⟩, ?_⟩
  refine TK.one 29 (by decide +kernel) rfl rfl (T1.callV has_32 rfl rfl (Of_any w0 [] [99]) z_E (fun v_ hv => ?_))
  obtain rfl := hv
  refine ⟨⟨z_C, z_C, z_E, z_E⟩, ?_⟩
  refine TK.one 30 (by decide +kernel) rfl rfl (T1.buildMany (vss := [[.int .i64 1, .string (bstr [97]), .slice none 0 0], [.int .i64 1, .string (bstr [98]), .slice none 0 0], [.int .i64 1, .string (bstr [99]), .slice none 0 0]]) (os := [.tmp 40, .tmp 41, .tmp 42]) ty_22 sz_24 zr_24 (by decide) rfl (.cons rfl (.cons rfl (.cons rfl .nil))) rfl (by intro l hl; simp only [List.mem_cons, List.not_mem_nil, or_false] at hl; rcases hl with rfl | rfl | rfl <;> rfl) (fun b43 => ?_))
  refine ⟨⟨z_C, z_C, z_E, z_E⟩, ?_⟩
  refine TK.one 31 (by decide +kernel) rfl rfl (T1.callC has_31 rfl rfl (Pairs_any w0 [(⟨⟨b43, some 24⟩, 0, [[.int .i64 1, .string (bstr [97]), .slice none 0 0], [.int .i64 1, .string (bstr [98]), .slice none 0 0], [.int .i64 1, .string (bstr [99]), .slice none 0 0]].flatten, 3 * 3⟩ : Blk)] (ts := rdC) (vs := [[.int .i64 1, .string (bstr [97]), .slice none 0 0], [.int .i64 1, .string (bstr [98]), .slice none 0 0], [.int .i64 1, .string (bstr [99]), .slice none 0 0]].flatten) (RowR.own (List.mem_cons_self ..) rfl) (TmsR.cons TmR.atom (TmsR.cons TmR.atom (TmsR.one TmR.atom))) (by decide)) z_E (fun v_ Yp hY => ?_))
  obtain ⟨cp, rfl, hcp⟩ := hY
  refine ⟨⟨z_C, z_C, z_E, z_E⟩, ?_⟩
  refine TK.one 32 (by decide +kernel) rfl rfl (T1.callV has_14 rfl rfl (TString_at w0 (Yp ++ [(⟨⟨b43, some 24⟩, 0, [[.int .i64 1, .string (bstr [97]), .slice none 0 0], [.int .i64 1, .string (bstr [98]), .slice none 0 0], [.int .i64 1, .string (bstr [99]), .slice none 0 0]].flatten, 3 * 3⟩ : Blk)]) (pairs rdC) [112, 40, 97, 44, 112, 40, 98, 44, 99, 41, 41] rd_txtC hcp rd_shp.2.2.2.2.1 rd_shp.2.2.2.2.2) z_E (fun v_ hv => ?_))
  obtain rfl := hv
  refine ⟨⟨z_C, z_C, z_E, z_E⟩, ?_⟩
  refine TK.take 33 rfl (by decide +kernel) (by decide +kernel) (by decide +kernel) rfl (fun _ _ _ h => h) (fun L_ ⟨k1_, k2_, k3_, k4_⟩ => V1.eqS (r := true) rfl rfl (decide_eq_true rfl)) ?_
  refine TK.take 34 rfl (by decide +kernel) (by decide +kernel) (by decide +kernel) rfl (fun _ _ _ h => h) (fun L_ ⟨k1_, k2_, k3_, k4_⟩ => V1.pick rfl z_D) ?_
  refine TK.take 35 rfl (by decide +kernel) (by decide +kernel) (by decide +kernel) rfl (fun _ _ _ h => h) (fun L_ ⟨k1_, k2_, k3_, k4_⟩ => V1.move' z_D) ?_
  refine TK.take 36 rfl (by decide +kernel) (by decide +kernel) (by decide +kernel) rfl (fun _ _ _ h => h) (fun L_ ⟨k1_, k2_, k3_, k4_⟩ => V1.pick rfl z_D) ?_
  refine TK.take 37 rfl (by decide +kernel) (by decide +kernel) (by decide +kernel) rfl (fun _ _ _ h => h) (fun L_ ⟨k1_, k2_, k3_, k4_⟩ => V1.move' z_D) ?_
  refine TK.take 38 rfl (by decide +kernel) (by decide +kernel) (by decide +kernel) rfl (fun _ _ _ h => h) (fun L_ ⟨k1_, k2_, k3_, k4_⟩ => V1.pick rfl z_D) ?_
  refine TK.take 39 rfl (by decide +kernel) (by decide +kernel) (by decide +kernel) rfl (fun _ _ _ h => h) (fun L_ ⟨k1_, k2_, k3_, k4_⟩ => V1.move' z_D) ?_
  refine TK.take 40 rfl (by decide +kernel) (by decide +kernel) (by decide +kernel) rfl (fun _ _ _ h => h) (fun L_ ⟨k1_, k2_, k3_, k4_⟩ => V1.pick rfl z_D) ?_
  refine TK.take 41 rfl (by decide +kernel) (by decide +kernel) (by decide +kernel) rfl (fun _ _ _ h => h) (fun L_ ⟨k1_, k2_, k3_, k4_⟩ => V1.move' z_D) ?_
  refine TK.take 42 rfl (by decide +kernel) (by decide +kernel) (by decide +kernel) rfl (fun _ _ _ h => h) (fun L_ ⟨k1_, k2_, k3_, k4_⟩ => V1.pick rfl z_D) ?_
  refine TK.take 43 rfl (by decide +kernel) (by decide +kernel) (by decide +kernel) rfl (fun _ _ _ h => h) (fun L_ ⟨k1_, k2_, k3_, k4_⟩ => V1.assign' z_D) ?_
  refine TD.done (by decide +kernel) ?_
  refine T.ret ?_
  exact ⟨_, G, _, .cons (.tmp z_D) .nil, z_A, rfl, rfl⟩

end Go.Proofs.YtlpkcbkflfbclaaGreatDoor.S
