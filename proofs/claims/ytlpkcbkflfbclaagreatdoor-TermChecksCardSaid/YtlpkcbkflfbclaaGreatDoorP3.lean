/- The term of a text. -/
import Derived.Test.YtlpkcbkflfbclaaGreatDoorP2
import Derived.Test.YtlpkcbkflfbclaaGreatDoorT4
namespace Go.Proofs.YtlpkcbkflfbclaaGreatDoor.S
open Go.RowKit

theorem V1.makeFuncL {C : Ctx} {e : Env} {L : List Blk} {dst : Option Tmp} {ty : TypeId} {pos : String} {after : Array Edge} {guard : Option (Nat × Bool)} {fn : Go.Fn} {caps : List Operand} {vs : List Value} (h : caps.map (ev C.n e) = vs) : V1 C ⟨dst, .makeFunc fn #[] caps.toArray, ty, pos, after, guard⟩ e L (.func fn #[] vs.toArray) := by
  have h1 := V1.makeFunc (C := C) (e := e) (L := L) (dst := dst) (ty := ty) (pos := pos) (after := after) (guard := guard) (fn := fn) (first := #[]) (cap := caps.toArray)
  have h2 : (caps.toArray).map (ev C.n e) = vs.toArray := by rw [← h]; simp
  have h3 : (#[] : Array Operand).map (ev C.n e) = #[] := by simp
  rw [h2, h3] at h1
  exact h1

set_option maxRecDepth 100000 in
theorem Parse1_any (w0 : World) (x y : Value) : FnD P 62 [x, y] w0 [] [] [] := by
  refine FnD.ofS 11 [] Go.Proofs.Tryz.func62 rfl rfl rfl rfl (fun G cs hG hrec => ?_)
  refine TS.seq ?_
  refine TS.region [0, 1, 2, 3, 4, 5, 6, 7] rfl ?_
  refine TLS.recover rfl hrec ?_
  refine TLS.cons rfl rfl (V1.t (V1.assertNil (fs := #[]) (by kernel_rfl) zr_111 rfl) ?_)
  refine TLS.cons rfl rfl (V1.t (V1.move' z_D) ?_)
  refine TLS.cons rfl rfl (V1.t (V1.extract rfl (by rfl)) ?_)
  refine TLS.cons rfl rfl (V1.t (V1.extract rfl (by rfl)) ?_)
  refine TLS.cons rfl rfl (T1.allocN 0 zr_111 rfl (fun b2 => ?_))
  refine TLS.cons rfl rfl (T1.storeN (vs := []) rfl rfl sz_111 (ones rfl) z_G (by rfl) (by rfl) ?_)
  refine TLS.cons rfl rfl (V1.t (V1.assign' z_D) ?_)
  refine TLS.nil ?_
  refine (show T _ _ _ _ _ from ?_)
  refine T.seq ?_
  refine T.region ?_
  refine TL.cons rfl (V1.t (V1.move' z_D) ?_)
  refine TL.nil ?_
  refine T.cond_f rfl ?_
  refine T.skip ?_
  exact ⟨_, [] ++ G, _, .nil, z_A, rfl⟩

theorem term0_any (w0 : World) (x : Tm) (br : Nat) (hc : chk x = 0) : FnG P 63 [.pointer (some ⟨br, 0, none⟩)] w0 [] [(⟨br, 0, [.string (bstr (txt x)), .int .i64 0, .int .i64 0], 3⟩ : Blk)] (fun v Y => ∃ cs Q, v = .agg cs.toArray ∧ Y = (⟨br, 0, [.string (bstr []), .int .i64 0, .int .i64 ((x.size : Nat) : Int)], 3⟩ : Blk) :: Q ∧ TmR w0 Q x cs) := by
  obtain ⟨h1, h2, h3⟩ := chk_iff.1 hc
  have hl := txt_len x h3
  have h := term_any w0 x br 0 0 [] h3 (by omega) (by omega) (.inl rfl) (by rw [List.append_nil]; omega)
  rw [List.append_nil, Nat.zero_add] at h
  exact h

set_option maxRecDepth 100000 in
set_option maxHeartbeats 8000000 in
theorem Parse_us (w0 : World) {k : Int} {nm : List UInt8} {ts : List Tm} (hck : chk (.mk k nm ts) = 0) : FnG P 29 [.string (bstr (txt (.mk k nm ts)))] w0 [] [] (fun v Y => ∃ cs, v = .tuple #[.agg cs.toArray, .int .i64 0] ∧ TmR w0 Y (.mk k nm ts) cs) := by
  refine FnG.ofD 24 Go.Proofs.Tryz.func29 rfl rfl rfl (fun G hG => ?_)
  simp only [List.nil_append]
  refine TG.seq ?_
  refine T.region ?_
  refine TL.cons rfl (T1.allocN 3 zr_24 rfl (fun b2 => ?_))
  refine TL.cons rfl (T1.alloc1 zr_32 rfl (fun b3 => ?_))
  refine TL.nil ?_
  refine TG.deferSeq ?_
  refine TLG.cons rfl (V1.t (V1.makeFuncL (by rfl)) ?_)
  refine TLG.defer rfl ?_
  refine TG.leave rfl ?_
  refine T.seq ?_
  refine T.region ?_
  refine TL.cons rfl (V1.t (V1.move' z_D) ?_)
  refine TL.cons rfl (V1.t (V1.buildF pl_115 zr_115 (.one rfl z_D rfl .nil) (by repeat (first | exact FillL.nil | exact SetN.done | apply SetN.here | apply SetN.there | apply FillL.cons))) ?_)
  refine TL.cons rfl (T1.boxN 3 rfl rfl (fun b8 => ?_))
  refine TL.cons rfl (V1.t (V1.assign' z_D) ?_)
  refine TL.nil ?_
  refine T.seq ?_
  refine T.region ?_
  refine TL.cons rfl (V1.t (V1.move' z_D) ?_)
  refine TL.cons rfl (T1.callM (X := [(⟨b8, 0, [.string (bstr (txt (.mk k nm ts))), .int .i64 0, .int .i64 0], 3⟩ : Blk)]) has_63 rfl rfl (term0_any w0 (.mk k nm ts) b8 hck) z_A z_E (fun v_ Y_ hY => ?_))
  obtain ⟨cs, Q, rfl, rfl, hcs⟩ := hY
  simp only [List.cons_append]
  obtain ⟨a_, c_, vs_, rfl, _, _, _⟩ := hcs.inv
  refine TL.cons rfl (T1.storeN (vs := [.int .i64 k, .string (bstr nm), .slice a_ ts.length c_]) rfl rfl sz_24 (ones rfl) z_G (by rfl) (by rfl) ?_)
  refine TL.nil ?_
  refine T.seq ?_
  refine T.region ?_
  refine TL.cons rfl (V1.t (V1.move' z_D) ?_)
  refine TL.cons rfl (V1.t (V1.move' z_D) ?_)
  refine TL.cons rfl (V1.t (V1.nilCheck rfl) ?_)
  refine TL.cons rfl (V1.t (V1.fieldAddr fl_115_0 rfl) ?_)
  refine TL.cons rfl (V1.t (V1.load1 (v := .string (bstr [])) one_9 rfl (.own z_C (by rfl))) ?_)
  refine TL.cons rfl (V1.t (V1.eqS (r := true) rfl rfl (decide_eq_true rfl)) ?_)
  refine TL.cons rfl (T1.callV has_64 rfl rfl (need_any w0 _) z_E (fun v_ hv => ?_))
  obtain rfl := hv
  refine TL.nil ?_
  refine T.seq ?_
  refine T.live (l := [(2, _), (3, _), (4, _)]) (.cons z_D (.cons z_D (.cons z_D .nil))) (fun e_ => ?_)
  refine T.region ?_
  refine TL.cons rfl (V1.t (V1.move' z_D) ?_)
  refine TL.cons rfl (V1.t (V1.loadN (vs := [.int .i64 k, .string (bstr nm), .slice a_ ts.length c_]) one_24 sz_24 rfl (RdN.whole z_C) rfl) ?_)
  refine TL.cons rfl (T1.callV has_13 rfl rfl (Check_any w0 Q (.mk k nm ts) _ hcs) z_E (fun v_ hv => ?_))
  obtain rfl := hv
  rw [hck]
  refine TL.cons rfl (V1.t (V1.eqI (r := true) rfl rfl (by decide)) ?_)
  refine TL.cons rfl (T1.callV has_64 rfl rfl (need_any w0 _) z_E (fun v_ hv => ?_))
  obtain rfl := hv
  refine TL.nil ?_
  refine T.seq ?_
  refine T.region ?_
  refine TL.cons rfl (V1.t (V1.loadN (vs := [.int .i64 k, .string (bstr nm), .slice a_ ts.length c_]) one_24 sz_24 rfl (RdN.whole z_C) rfl) ?_)
  refine TL.cons rfl (T1.storeN (vs := [.int .i64 k, .string (bstr nm), .slice a_ ts.length c_]) rfl rfl sz_24 (ones rfl) z_G (by rfl) (by rfl) ?_)
  refine TL.cons rfl (T1.store1 rfl rfl sz_32 rfl z_G (Nat.zero_le _) z_H ?_)
  refine TL.nil ?_
  refine T.ret ?_
  exact ⟨_, DefC.of has_62 (Parse1_any w0 _ _) Take.nil Inc.nil, _, Q ++ G, _, .cons (.cellN z_D one_24 sz_24 (RdN.whole (cells := [.int .i64 k, .string (bstr nm), .slice a_ ts.length c_]) z_C) (by rfl)) (.cons (.cell1 (v := .int .i64 0) z_D one_32 (.own z_C (by rfl))) .nil), z_A, Q, rfl, _, rfl, hcs⟩

theorem Parse_any (w0 : World) (x : Tm) (hck : chk x = 0) : FnG P 29 [.string (bstr (txt x))] w0 [] [] (fun v Y => ∃ cs, v = .tuple #[.agg cs.toArray, .int .i64 0] ∧ TmR w0 Y x cs) := by
  obtain ⟨k, nm, ts⟩ := x
  exact Parse_us w0 hck
end Go.Proofs.YtlpkcbkflfbclaaGreatDoor.S
