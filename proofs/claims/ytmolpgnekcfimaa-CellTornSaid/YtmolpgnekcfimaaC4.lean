/- A cell opened: what is had again. -/
import Derived.Test.YtmolpgnekcfimaaC3
import Derived.Test.YtmolpgnekcfimaaOpsD
namespace Go.Proofs.Ytmolpgnekcfimaa.S
open Go.RowKit

open Sh
theorem openP_y {x y : List UInt8} (h1 : okP y = true) (h2 : numP y % 2 = 1) (h3 : ¬ (okP x = true ∧ numP x % 2 = 0 ∧ numP y < numP x)) : openP x y = some (numP y, valP y) := by
  unfold openP; rw [if_pos ⟨h1, h2, h3⟩]
theorem openP_x {x y : List UInt8} (h1 : okP x = true) (h2 : numP x % 2 = 0) (h3 : ¬ (okP y = true ∧ numP y % 2 = 1 ∧ numP x < numP y)) : openP x y = some (numP x, valP x) := by
  unfold openP
  rw [if_neg, if_pos ⟨h1, h2⟩]
  rintro ⟨a, b, c⟩
  exact h3 ⟨a, b, by rcases Nat.lt_or_ge (numP x) (numP y) with h | h; exact h; exact absurd ⟨h1, h2, by omega⟩ c⟩
theorem openP_0 {x y : List UInt8} (h1 : ¬ (okP x = true ∧ numP x % 2 = 0)) (h2 : ¬ (okP y = true ∧ numP y % 2 = 1)) (hz : ∀ b ∈ x, b = 0) : openP x y = some (0, []) := by
  unfold openP
  rw [if_neg (fun h => h2 ⟨h.1, h.2.1⟩), if_neg h1, if_pos]
  rw [List.all_eq_true]; intro b hb; rw [hz b hb]; rfl
theorem openP_n {x y : List UInt8} (h1 : ¬ (okP x = true ∧ numP x % 2 = 0)) (h2 : ¬ (okP y = true ∧ numP y % 2 = 1)) {b : UInt8} (hb : b ∈ x) (hz : b ≠ 0) : openP x y = none := by
  unfold openP
  rw [if_neg (fun h => h2 ⟨h.1, h.2.1⟩), if_neg h1, if_neg]
  rw [List.all_eq_true]; intro h; exact hz (by simpa using h b hb)
theorem okP_pos {b : List UInt8} (h : okP b = true) : 0 < numP b ∧ (valP b).length ≤ b.length := by
  unfold okP at h
  rw [Bool.and_eq_true] at h
  have := of_decide_eq_true h.1
  refine ⟨by omega, ?_⟩
  unfold valP
  rw [List.length_take, List.length_drop]; omega
/-- What opening answers. -/
def OpR (o : Option (Nat × List UInt8)) (bd : Nat) (XA : List Blk) (v : Value) (Y : List Blk) : Prop :=
  match o with
  | some (n, vv) => ∃ bc Z, v = .tuple #[.pointer (some ⟨bc, 0, none⟩), .int .i64 0] ∧ Cl bc bd n vv Z ∧ Y = Z ++ XA
  | none => v = .tuple #[.pointer none, .int .i64 130] ∧ Y = XA

set_option maxRecDepth 100000 in
set_option maxHeartbeats 4000000 in
theorem Open_any (w0 : World) (bd ba r : Nat) (a : List UInt8) (pw : Int) (ha : a.length = 2 * r) (hr1 : 64 ≤ r) (hr2 : r ≤ 65536) : FnX P 9 [.pointer (some ⟨bd, 0, none⟩)] w0 [] [(⟨bd, 0, [.slice (some ⟨ba, 0, none⟩) a.length a.length, .int .i64 pw], 2⟩ : Blk), (⟨ba, 0, List.map byteV a, a.length⟩ : Blk)] (fun v Y => OpR (openP (plc r 0 a) (plc r 1 a)) bd [(⟨bd, 0, [.slice (some ⟨ba, 0, none⟩) a.length a.length, .int .i64 pw], 2⟩ : Blk), (⟨ba, 0, List.map byteV a, a.length⟩ : Blk)] v Y) := by
  have hal : a.length ≤ 1000000 := by omega
  refine FnX.of 70 [.tmp 2, .tmp 3] Go.Proofs.Try.func9 rfl rfl rfl rfl (fun G => ?_)
  simp only [List.cons_append, List.nil_append]
  refine T.seq ?_
  refine T.region ?_
  refine TL.cons rfl (V1.t (V1.assign' (by (conv => lhs; whnf) <;> rfl)) ?_)
  refine TL.cons rfl (V1.t (V1.assign' (by (conv => lhs; whnf) <;> rfl)) ?_)
  refine TL.nil ?_
  refine T.seq ?_
  refine T.region ?_
  refine TL.cons rfl (V1.t (V1.move' (by (conv => lhs; whnf) <;> rfl)) ?_)
  refine TL.cons rfl (V1.t (V1.buildF pl_57 zr_57 (.one rfl (by (conv => lhs; whnf) <;> rfl) rfl .nil) (by repeat (first | exact FillL.nil | exact SetN.done | apply SetN.here | apply SetN.there | apply FillL.cons))) ?_)
  refine TL.cons rfl (T1.boxN (vs := [.int .u64 0, .slice none 0 0, .pointer (some ⟨bd, 0, none⟩)]) 3 rfl rfl (fun b13 => ?_))
  refine TL.cons rfl (V1.t (V1.assign' (by (conv => lhs; whnf) <;> rfl)) ?_)
  refine TL.nil ?_
  refine T.seq ?_
  refine T.region ?_
  refine TL.cons rfl (V1.t (V1.assign' (by (conv => lhs; whnf) <;> rfl)) ?_)
  refine TL.nil ?_
  refine T.seq ?_
  refine T.seq ?_
  refine T.region ?_
  refine TL.cons rfl (V1.t (V1.move' (by (conv => lhs; whnf) <;> rfl)) ?_)
  refine TL.nil ?_
  refine T.block ?_
  refine T.rounds 3 (TR.step ?_)
  refine T.seq ?_
  refine T.region ?_
  refine TL.cons rfl (V1.t (V1.ltI rfl rfl (decide_eq_true (by omega))) ?_)
  ·
    refine TL.nil ?_
    refine T.seq ?_
    refine T.cond_t rfl ?_
    refine T.skip ?_
    refine T.seq ?_
    refine T.block ?_
    refine T.seq ?_
    refine T.region ?_
    refine TL.cons rfl (V1.t (V1.move' (by (conv => lhs; whnf) <;> rfl)) ?_)
    refine TL.cons rfl (V1.t (V1.assign' (by (conv => lhs; whnf) <;> rfl)) ?_)
    refine TL.nil ?_
    refine T.seq ?_
    refine T.region ?_
    refine TL.cons rfl (V1.t (V1.move' (by (conv => lhs; whnf) <;> rfl)) ?_)
    refine TL.cons rfl (V1.t (V1.move' (by (conv => lhs; whnf) <;> rfl)) ?_)
    refine TL.cons rfl (T1.callX (X := [(⟨bd, 0, [.slice (some ⟨ba, 0, none⟩) a.length a.length, .int .i64 pw], 2⟩ : Blk), (⟨ba, 0, List.map byteV a, a.length⟩ : Blk)]) has_18 rfl (look_any _ bd ba r 0 a pw ha hr1 hr2 (by decide)) (by repeat (first | exact Take.nil | apply Take.one (by repeat (first | exact Pick.here | apply Pick.there | apply Pick.far)) | apply Take.seg (by repeat (first | exact PickS.last | exact PickS.one | exact PickS.here | exact PickS.nil | apply PickS.there | apply PickS.far)) | exact Take.last (by repeat (first | exact PickS.last | exact PickS.one | exact PickS.here | exact PickS.nil | apply PickS.there | apply PickS.far)))) (fun v0 Y0 hY0 => ?_))
    obtain ⟨n0, s0, vv0, Ls0, ok0, rfl, rfl, hs0, hok0, hv0⟩ := hY0
    obtain ⟨sa0, sc0, rfl⟩ := (PartR.own (w0 := w0) (Ps := Ls0) hs0 (fun _ h => h)).form
    simp only [List.append_assoc, List.cons_append, List.nil_append]
    rcases (show ok0 = false ∨ (ok0 = true ∧ n0 % 2 = 0) ∨ (ok0 = true ∧ n0 % 2 ≠ 0) by cases ok0 with | false => exact .inl rfl | true => rcases Decidable.em (n0 % 2 = 0) with h | h; exact .inr (.inl ⟨rfl, h⟩); exact .inr (.inr ⟨rfl, h⟩)) with rfl | ⟨rfl, hp0⟩ | ⟨rfl, hp0⟩
    ·
      have hx0 : ¬ (okP (plc r 0 a) = true ∧ numP (plc r 0 a) % 2 = 0) := by rw [← hok0]; exact fun h => by cases h.1
      refine TL.cons rfl (V1.t (V1.move' (by (conv => lhs; whnf) <;> rfl)) ?_)
      refine TL.cons rfl (V1.t (V1.extract rfl (by rfl)) ?_)
      refine TL.cons rfl (V1.t (V1.extract rfl (by rfl)) ?_)
      refine TL.cons rfl (T1.allocN 2 zr_55 rfl (fun b7 => ?_))
      refine TL.cons rfl (T1.storeN (vs := [.int .u64 (n0 : Nat), .slice sa0 vv0.length sc0]) rfl rfl sz_55 (ones rfl) (by repeat (first | exact Sub.one | apply Sub.there | apply Sub.far)) (by rfl) (by rfl) ?_)
      refine TL.cons rfl (V1.t (V1.assign' rfl) ?_)
      refine TL.nil ?_
      refine T.seq ?_
      refine T.live (l := [(0, _), (4, _), (5, _), (6, _), (7, _), (8, _), (14, _)]) (.cons (by (conv => lhs; whnf) <;> rfl) (.cons (by (conv => lhs; whnf) <;> rfl) (.cons (by (conv => lhs; whnf) <;> rfl) (.cons (by (conv => lhs; whnf) <;> rfl) (.cons (by (conv => lhs; whnf) <;> rfl) (.cons (by (conv => lhs; whnf) <;> rfl) (.cons (by (conv => lhs; whnf) <;> rfl) .nil))))))) (fun e_ => ?_)
      refine T.drawK (fun L_ => Find L_ ⟨b7, 0, [.int .u64 (n0 : Nat), .slice sa0 vv0.length sc0], 2⟩ ∧ Find L_ ⟨b13, 0, [.int .u64 0, .slice none 0 0, .pointer (some ⟨bd, 0, none⟩)], 3⟩) mixed ⟨(by repeat (first | exact Find.here | assumption | apply Find.there | apply Find.far)), (by repeat (first | exact Find.here | assumption | apply Find.there | apply Find.far))⟩ ?_
      refine TK.take 0 rfl (by decide +kernel) (by decide +kernel) (by decide +kernel) rfl (fun _ _ _ h => h) (fun L_ ⟨k1_, k2_⟩ => V1.move' (by (conv => lhs; whnf) <;> rfl)) ?_
      refine TK.take 1 rfl (by decide +kernel) (by decide +kernel) (by decide +kernel) rfl (fun _ _ _ h => h) (fun L_ ⟨k1_, k2_⟩ => V1.move' (by (conv => lhs; whnf) <;> rfl)) ?_
      refine TD.takeNo (i := 2) rfl (by decide +kernel) (by decide +kernel) (by decide +kernel) rfl (fun _ _ _ h => h) ?_
      refine TD.takeNo (i := 3) rfl (by decide +kernel) (by decide +kernel) (by decide +kernel) rfl (fun _ _ _ h => h) ?_
      refine TD.takeNo (i := 4) rfl (by decide +kernel) (by decide +kernel) (by decide +kernel) rfl (fun _ _ _ h => h) ?_
      refine TD.takeNo (i := 5) rfl (by decide +kernel) (by decide +kernel) (by decide +kernel) rfl (fun _ _ _ h => h) ?_
      refine TD.takeNo (i := 6) rfl (by decide +kernel) (by decide +kernel) (by decide +kernel) rfl (fun _ _ _ h => h) ?_
      refine TD.takeNo (i := 7) rfl (by decide +kernel) (by decide +kernel) (by decide +kernel) rfl (fun _ _ _ h => h) ?_
      refine TK.take 8 rfl (by decide +kernel) (by decide +kernel) (by decide +kernel) rfl (fun _ _ _ h => h) (fun L_ ⟨k1_, k2_⟩ => V1.pick rfl (by (conv => lhs; whnf) <;> rfl)) ?_
      refine TK.take 9 rfl (by decide +kernel) (by decide +kernel) (by decide +kernel) rfl (fun _ _ _ h => h) (fun L_ ⟨k1_, k2_⟩ => V1.move' (by (conv => lhs; whnf) <;> rfl)) ?_
      refine TD.takeNo (i := 10) rfl (by decide +kernel) (by decide +kernel) (by decide +kernel) rfl (fun _ _ _ h => h) ?_
      refine TD.takeNo (i := 11) rfl (by decide +kernel) (by decide +kernel) (by decide +kernel) rfl (fun _ _ _ h => h) ?_
      refine TD.takeNo (i := 12) rfl (by decide +kernel) (by decide +kernel) (by decide +kernel) rfl (fun _ _ _ h => h) ?_
      refine TD.takeNo (i := 13) rfl (by decide +kernel) (by decide +kernel) (by decide +kernel) rfl (fun _ _ _ h => h) ?_
      refine TD.takeNo (i := 14) rfl (by decide +kernel) (by decide +kernel) (by decide +kernel) rfl (fun _ _ _ h => h) ?_
      refine TD.takeNo (i := 15) rfl (by decide +kernel) (by decide +kernel) (by decide +kernel) rfl (fun _ _ _ h => h) ?_
      refine TD.takeNo (i := 16) rfl (by decide +kernel) (by decide +kernel) (by decide +kernel) rfl (fun _ _ _ h => h) ?_
      refine TD.takeNo (i := 17) rfl (by decide +kernel) (by decide +kernel) (by decide +kernel) rfl (fun _ _ _ h => h) ?_
      refine TK.take 18 rfl (by decide +kernel) (by decide +kernel) (by decide +kernel) rfl (fun _ _ _ h => h) (fun L_ ⟨k1_, k2_⟩ => V1.pick rfl (by (conv => lhs; whnf) <;> rfl)) ?_
      refine TD.done (by decide +kernel) ?_
      refine T.cond_f rfl ?_
      refine T.skip ?_
      refine T.live (l := [(0, _), (4, _), (5, _), (14, _)]) (.cons (by (conv => lhs; whnf) <;> rfl) (.cons (by (conv => lhs; whnf) <;> rfl) (.cons (by (conv => lhs; whnf) <;> rfl) (.cons (by (conv => lhs; whnf) <;> rfl) .nil)))) (fun e_ => ?_)
      refine T.region ?_
      refine TL.cons rfl (V1.t (V1.add rfl rfl (wrap_i64 _ (by omega) (by omega))) ?_)
      refine TL.cons rfl (V1.t (V1.move' (by (conv => lhs; whnf) <;> rfl)) ?_)
      refine TL.nil ?_
      refine TR.step ?_
      refine T.seq ?_
      refine T.region ?_
      refine TL.cons rfl (V1.t (V1.ltI rfl rfl (decide_eq_true (by omega))) ?_)
      ·
        refine TL.nil ?_
        refine T.seq ?_
        refine T.cond_t rfl ?_
        refine T.skip ?_
        refine T.seq ?_
        refine T.block ?_
        refine T.seq ?_
        refine T.region ?_
        refine TL.cons rfl (V1.t (V1.move' (by (conv => lhs; whnf) <;> rfl)) ?_)
        refine TL.cons rfl (V1.t (V1.assign' (by (conv => lhs; whnf) <;> rfl)) ?_)
        refine TL.nil ?_
        refine T.seq ?_
        refine T.region ?_
        refine TL.cons rfl (V1.t (V1.move' (by (conv => lhs; whnf) <;> rfl)) ?_)
        refine TL.cons rfl (V1.t (V1.move' (by (conv => lhs; whnf) <;> rfl)) ?_)
        refine TL.cons rfl (T1.callX (X := [(⟨bd, 0, [.slice (some ⟨ba, 0, none⟩) a.length a.length, .int .i64 pw], 2⟩ : Blk), (⟨ba, 0, List.map byteV a, a.length⟩ : Blk)]) has_18 rfl (look_any _ bd ba r 1 a pw ha hr1 hr2 (by decide)) (by repeat (first | exact Take.nil | apply Take.one (by repeat (first | exact Pick.here | apply Pick.there | apply Pick.far)) | apply Take.seg (by repeat (first | exact PickS.last | exact PickS.one | exact PickS.here | exact PickS.nil | apply PickS.there | apply PickS.far)) | exact Take.last (by repeat (first | exact PickS.last | exact PickS.one | exact PickS.here | exact PickS.nil | apply PickS.there | apply PickS.far)))) (fun v1 Y1 hY1 => ?_))
        obtain ⟨n1, s1, vv1, Ls1, ok1, rfl, rfl, hs1, hok1, hv1⟩ := hY1
        obtain ⟨sa1, sc1, rfl⟩ := (PartR.own (w0 := w0) (Ps := Ls1) hs1 (fun _ h => h)).form
        simp only [List.append_assoc, List.cons_append, List.nil_append]
        rcases (show ok1 = false ∨ (ok1 = true ∧ n1 % 2 = 1) ∨ (ok1 = true ∧ n1 % 2 ≠ 1) by cases ok1 with | false => exact .inl rfl | true => rcases Decidable.em (n1 % 2 = 1) with h | h; exact .inr (.inl ⟨rfl, h⟩); exact .inr (.inr ⟨rfl, h⟩)) with rfl | ⟨rfl, hp1⟩ | ⟨rfl, hp1⟩
        ·
          have hy1 : ¬ (okP (plc r 1 a) = true ∧ numP (plc r 1 a) % 2 = 1) := by rw [← hok1]; exact fun h => by cases h.1
          refine TL.cons rfl (V1.t (V1.move' (by (conv => lhs; whnf) <;> rfl)) ?_)
          refine TL.cons rfl (V1.t (V1.extract rfl (by rfl)) ?_)
          refine TL.cons rfl (V1.t (V1.extract rfl (by rfl)) ?_)
          refine TL.cons rfl (T1.allocN 2 zr_55 rfl (fun b7 => ?_))
          refine TL.cons rfl (T1.storeN (vs := [.int .u64 (n1 : Nat), .slice sa1 vv1.length sc1]) rfl rfl sz_55 (ones rfl) (by repeat (first | exact Sub.one | apply Sub.there | apply Sub.far)) (by rfl) (by rfl) ?_)
          refine TL.cons rfl (V1.t (V1.assign' rfl) ?_)
          refine TL.nil ?_
          refine T.seq ?_
          refine T.drawK (fun L_ => Find L_ ⟨b7, 0, [.int .u64 (n1 : Nat), .slice sa1 vv1.length sc1], 2⟩ ∧ Find L_ ⟨b13, 0, [.int .u64 0, .slice none 0 0, .pointer (some ⟨bd, 0, none⟩)], 3⟩) mixed ⟨(by repeat (first | exact Find.here | assumption | apply Find.there | apply Find.far)), (by repeat (first | exact Find.here | assumption | apply Find.there | apply Find.far))⟩ ?_
          refine TK.take 0 rfl (by decide +kernel) (by decide +kernel) (by decide +kernel) rfl (fun _ _ _ h => h) (fun L_ ⟨k1_, k2_⟩ => V1.move' (by (conv => lhs; whnf) <;> rfl)) ?_
          refine TK.take 1 rfl (by decide +kernel) (by decide +kernel) (by decide +kernel) rfl (fun _ _ _ h => h) (fun L_ ⟨k1_, k2_⟩ => V1.move' (by (conv => lhs; whnf) <;> rfl)) ?_
          refine TD.takeNo (i := 2) rfl (by decide +kernel) (by decide +kernel) (by decide +kernel) rfl (fun _ _ _ h => h) ?_
          refine TD.takeNo (i := 3) rfl (by decide +kernel) (by decide +kernel) (by decide +kernel) rfl (fun _ _ _ h => h) ?_
          refine TD.takeNo (i := 4) rfl (by decide +kernel) (by decide +kernel) (by decide +kernel) rfl (fun _ _ _ h => h) ?_
          refine TD.takeNo (i := 5) rfl (by decide +kernel) (by decide +kernel) (by decide +kernel) rfl (fun _ _ _ h => h) ?_
          refine TD.takeNo (i := 6) rfl (by decide +kernel) (by decide +kernel) (by decide +kernel) rfl (fun _ _ _ h => h) ?_
          refine TD.takeNo (i := 7) rfl (by decide +kernel) (by decide +kernel) (by decide +kernel) rfl (fun _ _ _ h => h) ?_
          refine TK.take 8 rfl (by decide +kernel) (by decide +kernel) (by decide +kernel) rfl (fun _ _ _ h => h) (fun L_ ⟨k1_, k2_⟩ => V1.pick rfl (by (conv => lhs; whnf) <;> rfl)) ?_
          refine TK.take 9 rfl (by decide +kernel) (by decide +kernel) (by decide +kernel) rfl (fun _ _ _ h => h) (fun L_ ⟨k1_, k2_⟩ => V1.move' (by (conv => lhs; whnf) <;> rfl)) ?_
          refine TD.takeNo (i := 10) rfl (by decide +kernel) (by decide +kernel) (by decide +kernel) rfl (fun _ _ _ h => h) ?_
          refine TD.takeNo (i := 11) rfl (by decide +kernel) (by decide +kernel) (by decide +kernel) rfl (fun _ _ _ h => h) ?_
          refine TD.takeNo (i := 12) rfl (by decide +kernel) (by decide +kernel) (by decide +kernel) rfl (fun _ _ _ h => h) ?_
          refine TD.takeNo (i := 13) rfl (by decide +kernel) (by decide +kernel) (by decide +kernel) rfl (fun _ _ _ h => h) ?_
          refine TD.takeNo (i := 14) rfl (by decide +kernel) (by decide +kernel) (by decide +kernel) rfl (fun _ _ _ h => h) ?_
          refine TD.takeNo (i := 15) rfl (by decide +kernel) (by decide +kernel) (by decide +kernel) rfl (fun _ _ _ h => h) ?_
          refine TD.takeNo (i := 16) rfl (by decide +kernel) (by decide +kernel) (by decide +kernel) rfl (fun _ _ _ h => h) ?_
          refine TD.takeNo (i := 17) rfl (by decide +kernel) (by decide +kernel) (by decide +kernel) rfl (fun _ _ _ h => h) ?_
          refine TK.take 18 rfl (by decide +kernel) (by decide +kernel) (by decide +kernel) rfl (fun _ _ _ h => h) (fun L_ ⟨k1_, k2_⟩ => V1.pick rfl (by (conv => lhs; whnf) <;> rfl)) ?_
          refine TD.done (by decide +kernel) ?_
          refine T.cond_f rfl ?_
          refine T.skip ?_
          refine T.live (l := [(0, _), (4, _), (5, _), (14, _)]) (.cons (by (conv => lhs; whnf) <;> rfl) (.cons (by (conv => lhs; whnf) <;> rfl) (.cons (by (conv => lhs; whnf) <;> rfl) (.cons (by (conv => lhs; whnf) <;> rfl) .nil)))) (fun e_ => ?_)
          refine T.region ?_
          refine TL.cons rfl (V1.t (V1.add rfl rfl (wrap_i64 _ (by omega) (by omega))) ?_)
          refine TL.cons rfl (V1.t (V1.move' (by (conv => lhs; whnf) <;> rfl)) ?_)
          refine TL.nil ?_
          refine TR.step ?_
          refine T.seq ?_
          refine T.region ?_
          refine TL.cons rfl (V1.t (V1.ltI rfl rfl (decide_eq_false (by omega))) ?_)
          ·
            refine TL.nil ?_
            refine T.seq ?_
            refine T.cond_f rfl ?_
            refine T.exit ?_
            refine T.seq ?_
            refine T.seq ?_
            refine T.region ?_
            refine TL.cons rfl (V1.t (V1.move' (by (conv => lhs; whnf) <;> rfl)) ?_)
            refine TL.cons rfl (V1.t (V1.not rfl rfl) ?_)
            refine TL.cons rfl (V1.t (V1.move' (by (conv => lhs; whnf) <;> rfl)) ?_)
            refine TL.cons rfl (V1.t (V1.move' (by (conv => lhs; whnf) <;> rfl)) ?_)
            refine TL.cons rfl (T1.callX (X := [(⟨bd, 0, [.slice (some ⟨ba, 0, none⟩) a.length a.length, .int .i64 pw], 2⟩ : Blk), (⟨ba, 0, List.map byteV a, a.length⟩ : Blk)]) has_19 rfl (blank_any _ bd ba a pw hal) (by repeat (first | exact Take.nil | apply Take.one (by repeat (first | exact Pick.here | apply Pick.there | apply Pick.far)) | apply Take.seg (by repeat (first | exact PickS.last | exact PickS.one | exact PickS.here | exact PickS.nil | apply PickS.there | apply PickS.far)) | exact Take.last (by repeat (first | exact PickS.last | exact PickS.one | exact PickS.here | exact PickS.nil | apply PickS.there | apply PickS.far)))) (fun v Y hY => ?_))
            obtain ⟨rfl, rfl⟩ := hY
            simp only [List.cons_append, List.nil_append]
            refine TL.cons rfl (V1.t (V1.not rfl rfl) ?_)
            refine TL.cons rfl (V1.t (V1.pick rfl (by (conv => lhs; whnf) <;> rfl)) ?_)
            refine TL.nil ?_
            refine T.cond_split rfl (fun hc => ?_) (fun hc => ?_)
            ·
              refine T.seq ?_
              refine T.drawK (fun L_ => Find L_ (⟨bd, 0, [.slice (some ⟨ba, 0, none⟩) a.length a.length, .int .i64 pw], 2⟩ : Blk)) mixed (by repeat (first | exact Find.here | assumption | apply Find.there | apply Find.far)) ?_
              refine TK.take 0 rfl (by decide +kernel) (by decide +kernel) (by decide +kernel) rfl (fun _ _ _ h => h) (fun L_ k1_ => V1.move' (by (conv => lhs; whnf) <;> rfl)) ?_
              refine TK.take 1 rfl (by decide +kernel) (by decide +kernel) (by decide +kernel) rfl (fun _ _ _ h => h) (fun L_ k1_ => V1.nilCheck rfl) ?_
              refine TK.take 2 rfl (by decide +kernel) (by decide +kernel) (by decide +kernel) rfl (fun _ _ _ h => h) (fun L_ k1_ => V1.fieldAddr fl_53_0 rfl) ?_
              refine TK.take 3 rfl (by decide +kernel) (by decide +kernel) (by decide +kernel) rfl (fun _ _ _ h => h) (fun L_ k1_ => V1.load1 one_33 rfl (.own (cells := [.slice (some ⟨ba, 0, none⟩) a.length a.length, .int .i64 pw]) (by repeat (first | exact Find.here | assumption | apply Find.there | apply Find.far)) (by rfl))) ?_
              refine TK.take 4 rfl (by decide +kernel) (by decide +kernel) (by decide +kernel) rfl (fun _ _ _ h => h) (fun L_ k1_ => V1.move' (by (conv => lhs; whnf) <;> rfl)) ?_
              refine TK.take 8 rfl (by decide +kernel) (by decide +kernel) (by decide +kernel) rfl (fun _ _ _ h => h) (fun L_ k1_ => V1.move' (by (conv => lhs; whnf) <;> rfl)) ?_
              refine TK.one 5 (by decide +kernel) rfl rfl (T1.callX (X := [(⟨bd, 0, [.slice (some ⟨ba, 0, none⟩) a.length a.length, .int .i64 pw], 2⟩ : Blk)]) has_20 rfl (room_any _ bd ba a.length pw hal) (by repeat (first | exact Take.nil | apply Take.one (by repeat (first | exact Pick.here | apply Pick.there | apply Pick.far)) | apply Take.seg (by repeat (first | exact PickS.last | exact PickS.one | exact PickS.here | exact PickS.nil | apply PickS.there | apply PickS.far)) | exact Take.last (by repeat (first | exact PickS.last | exact PickS.one | exact PickS.here | exact PickS.nil | apply PickS.there | apply PickS.far)))) (fun v Y hY => ?_))
              obtain ⟨rfl, rfl⟩ := hY
              simp only [List.cons_append, List.nil_append]
              rw [show a.length / 2 = r from by omega]
              refine ⟨(by repeat (first | exact Find.here | assumption | apply Find.there | apply Find.far)), ?_⟩
              refine TK.take 6 rfl (by decide +kernel) (by decide +kernel) (by decide +kernel) rfl (fun _ _ _ h => h) (fun L_ k1_ => V1.sliceTo r ty_33 sz_5 rfl rfl rfl (by omega) (Nat.le_refl _)) ?_
              refine TK.take 7 rfl (by decide +kernel) (by decide +kernel) (by decide +kernel) rfl (fun _ _ _ h => h) (fun L_ k1_ => V1.lenSl ty_33 rfl) ?_
              refine TD.done (by decide +kernel) ?_
              refine T.block ?_
              refine T.loopL (σ := Nat) (l0 := [(4, _), (60, _), (61, _)]) (fun x => [(62, .int .i64 (x : Nat))]) (fun k L => L = ⟨b13, 0, [.int .u64 0, .slice none 0 0, .pointer (some ⟨bd, 0, none⟩)], 3⟩ :: (⟨bd, 0, [.slice (some ⟨ba, 0, none⟩) a.length a.length, .int .i64 pw], 2⟩ : Blk) :: (⟨ba, 0, List.map byteV a, a.length⟩ : Blk) :: G ∧ k ≤ r ∧ (∀ y ∈ a.take k, y = 0)) (fun x => r - x) 0 (.cons rfl .nil) (.cons (by (conv => lhs; whnf) <;> rfl) (.cons (by (conv => lhs; whnf) <;> rfl) (.cons (by (conv => lhs; whnf) <;> rfl) .nil))) (by repeat (first | exact Take.nil | apply Take.one (by repeat (first | exact Pick.here | apply Pick.there | apply Pick.far)) | apply Take.seg (by repeat (first | exact PickS.last | exact PickS.one | exact PickS.here | exact PickS.nil | apply PickS.there | apply PickS.far)) | exact Take.last (by repeat (first | exact PickS.last | exact PickS.one | exact PickS.here | exact PickS.nil | apply PickS.there | apply PickS.far)))) (⟨rfl, Nat.zero_le _, by simp⟩) ?_
              rintro k e_ L ⟨rfl, hk, hz⟩
              refine T.seq ?_
              refine T.region ?_
              refine TL.cons rfl (T1.ltI_split rfl rfl (fun h12 => ?_) (fun h12 => ?_))
              ·
                obtain ⟨x, hx⟩ : ∃ z, a[k]? = some z := ⟨_, List.getElem?_eq_getElem (by omega)⟩
                refine TL.nil ?_
                refine T.seq ?_
                refine T.cond_t rfl ?_
                refine T.skip ?_
                refine T.seq ?_
                refine T.block ?_
                refine T.seq ?_
                refine T.region ?_
                refine TL.cons rfl (V1.t (V1.indexAddrS ty_33 sz_5 rfl rfl (by omega) (by omega)) ?_)
                refine TL.cons rfl (V1.t (V1.load1 one_5 rfl (show Rd _ _ ⟨ba, 0 + k * 1, none⟩ (byteV x) from by rw [Nat.mul_one]; exact Rd.at (cells := List.map byteV a) (by repeat (first | exact Find.here | assumption | apply Find.there | apply Find.far)) (by rw [List.getElem?_map, hx]; rfl))) ?_)
                refine TL.cons rfl (V1.t (V1.assign' (by (conv => lhs; whnf) <;> rfl)) ?_)
                refine TL.nil ?_
                refine T.seq ?_
                refine T.region ?_
                refine TL.cons rfl (V1.t (V1.move' (by (conv => lhs; whnf) <;> rfl)) ?_)
                refine TL.cons rfl (T1.neI_split rfl rfl (fun h14 => ?_) (fun h14 => ?_))
                ·
                  refine TL.nil ?_
                  refine T.cond_t rfl ?_
                  refine T.seq ?_
                  refine T.region ?_
                  refine TL.cons rfl (V1.t (V1.assign' (by (conv => lhs; whnf) <;> rfl)) ?_)
                  refine TL.cons rfl (V1.t (V1.assign' (by (conv => lhs; whnf) <;> rfl)) ?_)
                  refine TL.nil ?_
                  refine T.ret ?_
                  have hpx : plc r 0 a = a.take r := by unfold plc; rw [Nat.zero_mul, List.drop_zero]
                  exact ⟨_, (⟨bd, 0, [.slice (some ⟨ba, 0, none⟩) a.length a.length, .int .i64 pw], 2⟩ : Blk) :: (⟨ba, 0, List.map byteV a, a.length⟩ : Blk) :: G, _, .cons (.tmp (by (conv => lhs; whnf) <;> rfl)) (.cons (.tmp (by (conv => lhs; whnf) <;> rfl)) .nil), (by repeat (first | exact Take.nil | apply Take.one (by repeat (first | exact Pick.here | apply Pick.there | apply Pick.far)) | apply Take.seg (by repeat (first | exact PickS.last | exact PickS.one | exact PickS.here | exact PickS.nil | apply PickS.there | apply PickS.far)) | exact Take.last (by repeat (first | exact PickS.last | exact PickS.one | exact PickS.here | exact PickS.nil | apply PickS.there | apply PickS.far)))), [(⟨bd, 0, [.slice (some ⟨ba, 0, none⟩) a.length a.length, .int .i64 pw], 2⟩ : Blk), (⟨ba, 0, List.map byteV a, a.length⟩ : Blk)], rfl, by rw [openP_n hx0 hy1 (b := x) (by rw [hpx]; exact List.mem_of_getElem? (show (a.take r)[k]? = some x by rw [List.getElem?_take, if_pos (by omega)]; exact hx)) (by rintro rfl; exact h14 rfl)]; exact ⟨rfl, rfl⟩⟩
                ·
                  have hx00 : x = 0 := by apply UInt8.toNat_inj.1; show x.toNat = 0; omega
                  refine TL.nil ?_
                  refine T.cond_f rfl ?_
                  refine T.skip ?_
                  refine T.region ?_
                  refine TL.cons rfl (V1.t (V1.add rfl rfl (wrap_i64 _ (by omega) (by omega))) ?_)
                  refine TL.cons rfl (V1.t (V1.move' (by (conv => lhs; whnf) <;> rfl)) ?_)
                  refine TL.nil ?_
                  exact ⟨k + 1, _, _, (by simp only; omega), (.cons rfl .nil), (.cons rfl (.cons rfl (.cons rfl .nil))), (by repeat (first | exact Take.nil | apply Take.one (by repeat (first | exact Pick.here | apply Pick.there | apply Pick.far)) | apply Take.seg (by repeat (first | exact PickS.last | exact PickS.one | exact PickS.here | exact PickS.nil | apply PickS.there | apply PickS.far)) | exact Take.last (by repeat (first | exact PickS.last | exact PickS.one | exact PickS.here | exact PickS.nil | apply PickS.there | apply PickS.far)))), ⟨rfl, by omega, (all_take hx).2 ⟨hz, hx00⟩⟩⟩
              ·
                have hkr : k = r := by omega
                rw [hkr] at hz
                refine TL.nil ?_
                refine T.seq ?_
                refine T.cond_f rfl ?_
                refine T.exit ?_
                refine T.seq ?_
                refine T.region ?_
                refine TL.cons rfl (V1.t (V1.move' (by (conv => lhs; whnf) <;> rfl)) ?_)
                refine TL.cons rfl (V1.t (V1.assign' (by (conv => lhs; whnf) <;> rfl)) ?_)
                refine TL.cons rfl (V1.t (V1.assign' (by (conv => lhs; whnf) <;> rfl)) ?_)
                refine TL.nil ?_
                refine T.ret ?_
                have hpx : plc r 0 a = a.take r := by unfold plc; rw [Nat.zero_mul, List.drop_zero]
                exact ⟨_, ⟨b13, 0, [.int .u64 0, .slice none 0 0, .pointer (some ⟨bd, 0, none⟩)], 3⟩ :: (⟨bd, 0, [.slice (some ⟨ba, 0, none⟩) a.length a.length, .int .i64 pw], 2⟩ : Blk) :: (⟨ba, 0, List.map byteV a, a.length⟩ : Blk) :: G, _, .cons (.tmp (by (conv => lhs; whnf) <;> rfl)) (.cons (.tmp (by (conv => lhs; whnf) <;> rfl)) .nil), (by repeat (first | exact Take.nil | apply Take.one (by repeat (first | exact Pick.here | apply Pick.there | apply Pick.far)) | apply Take.seg (by repeat (first | exact PickS.last | exact PickS.one | exact PickS.here | exact PickS.nil | apply PickS.there | apply PickS.far)) | exact Take.last (by repeat (first | exact PickS.last | exact PickS.one | exact PickS.here | exact PickS.nil | apply PickS.there | apply PickS.far)))), [⟨b13, 0, [.int .u64 0, .slice none 0 0, .pointer (some ⟨bd, 0, none⟩)], 3⟩] ++ [(⟨bd, 0, [.slice (some ⟨ba, 0, none⟩) a.length a.length, .int .i64 pw], 2⟩ : Blk), (⟨ba, 0, List.map byteV a, a.length⟩ : Blk)], rfl, by rw [openP_0 hx0 hy1 (by rw [hpx]; first | exact hz | (have hall : ∀ y ∈ a, y = 0 := (by simpa using hc); exact fun y hy => hall y (List.mem_of_mem_take hy)))]; exact ⟨b13, [⟨b13, 0, [.int .u64 0, .slice none 0 0, .pointer (some ⟨bd, 0, none⟩)], 3⟩], rfl, ⟨_, [], rfl, Sl.nil⟩, rfl⟩⟩
            ·
              refine T.skip ?_
              refine T.seq ?_
              refine T.region ?_
              refine TL.cons rfl (V1.t (V1.move' (by (conv => lhs; whnf) <;> rfl)) ?_)
              refine TL.cons rfl (V1.t (V1.assign' (by (conv => lhs; whnf) <;> rfl)) ?_)
              refine TL.cons rfl (V1.t (V1.assign' (by (conv => lhs; whnf) <;> rfl)) ?_)
              refine TL.nil ?_
              refine T.ret ?_
              have hpx : plc r 0 a = a.take r := by unfold plc; rw [Nat.zero_mul, List.drop_zero]
              exact ⟨_, ⟨b13, 0, [.int .u64 0, .slice none 0 0, .pointer (some ⟨bd, 0, none⟩)], 3⟩ :: (⟨bd, 0, [.slice (some ⟨ba, 0, none⟩) a.length a.length, .int .i64 pw], 2⟩ : Blk) :: (⟨ba, 0, List.map byteV a, a.length⟩ : Blk) :: G, _, .cons (.tmp (by (conv => lhs; whnf) <;> rfl)) (.cons (.tmp (by (conv => lhs; whnf) <;> rfl)) .nil), (by repeat (first | exact Take.nil | apply Take.one (by repeat (first | exact Pick.here | apply Pick.there | apply Pick.far)) | apply Take.seg (by repeat (first | exact PickS.last | exact PickS.one | exact PickS.here | exact PickS.nil | apply PickS.there | apply PickS.far)) | exact Take.last (by repeat (first | exact PickS.last | exact PickS.one | exact PickS.here | exact PickS.nil | apply PickS.there | apply PickS.far)))), [⟨b13, 0, [.int .u64 0, .slice none 0 0, .pointer (some ⟨bd, 0, none⟩)], 3⟩] ++ [(⟨bd, 0, [.slice (some ⟨ba, 0, none⟩) a.length a.length, .int .i64 pw], 2⟩ : Blk), (⟨ba, 0, List.map byteV a, a.length⟩ : Blk)], rfl, by rw [openP_0 hx0 hy1 (by rw [hpx]; first | exact hz | (have hall : ∀ y ∈ a, y = 0 := (by simpa using hc); exact fun y hy => hall y (List.mem_of_mem_take hy)))]; exact ⟨b13, [⟨b13, 0, [.int .u64 0, .slice none 0 0, .pointer (some ⟨bd, 0, none⟩)], 3⟩], rfl, ⟨_, [], rfl, Sl.nil⟩, rfl⟩⟩
        ·
          obtain ⟨rfl, rfl⟩ := hv1 rfl
          have hg1 := (okP_pos hok1.symm).1
          refine TL.cons rfl (V1.t (V1.move' (by (conv => lhs; whnf) <;> rfl)) ?_)
          refine TL.cons rfl (V1.t (V1.extract rfl (by rfl)) ?_)
          refine TL.cons rfl (V1.t (V1.extract rfl (by rfl)) ?_)
          refine TL.cons rfl (T1.allocN 2 zr_55 rfl (fun b7 => ?_))
          refine TL.cons rfl (T1.storeN (vs := [.int .u64 (numP (plc r 1 a) : Nat), .slice sa1 (valP (plc r 1 a)).length sc1]) rfl rfl sz_55 (ones rfl) (by repeat (first | exact Sub.one | apply Sub.there | apply Sub.far)) (by rfl) (by rfl) ?_)
          refine TL.cons rfl (V1.t (V1.assign' rfl) ?_)
          refine TL.nil ?_
          refine T.seq ?_
          refine T.drawK (fun L_ => Find L_ ⟨b7, 0, [.int .u64 (numP (plc r 1 a) : Nat), .slice sa1 (valP (plc r 1 a)).length sc1], 2⟩ ∧ Find L_ ⟨b13, 0, [.int .u64 0, .slice none 0 0, .pointer (some ⟨bd, 0, none⟩)], 3⟩) mixed ⟨(by repeat (first | exact Find.here | assumption | apply Find.there | apply Find.far)), (by repeat (first | exact Find.here | assumption | apply Find.there | apply Find.far))⟩ ?_
          refine TK.take 0 rfl (by decide +kernel) (by decide +kernel) (by decide +kernel) rfl (fun _ _ _ h => h) (fun L_ ⟨k1_, k2_⟩ => V1.move' (by (conv => lhs; whnf) <;> rfl)) ?_
          refine TK.take 1 rfl (by decide +kernel) (by decide +kernel) (by decide +kernel) rfl (fun _ _ _ h => h) (fun L_ ⟨k1_, k2_⟩ => V1.move' (by (conv => lhs; whnf) <;> rfl)) ?_
          refine TK.take 2 rfl (by decide +kernel) (by decide +kernel) (by decide +kernel) rfl (fun _ _ _ h => h) (fun L_ ⟨k1_, k2_⟩ => V1.fieldAddr fl_55_0 rfl) ?_
          refine TK.take 3 rfl (by decide +kernel) (by decide +kernel) (by decide +kernel) rfl (fun _ _ _ h => h) (fun L_ ⟨k1_, k2_⟩ => V1.load1 one_32 rfl (.own (cells := [.int .u64 (numP (plc r 1 a) : Nat), .slice sa1 (valP (plc r 1 a)).length sc1]) (by repeat (first | exact Find.here | assumption | apply Find.there | apply Find.far)) (by rfl))) ?_
          refine TK.take 4 rfl (by decide +kernel) (by decide +kernel) (by decide +kernel) rfl (fun _ _ _ h => h) (fun L_ ⟨k1_, k2_⟩ => V1.rem (c := ((numP (plc r 1 a) % 2 : Nat) : Int)) rfl rfl (by decide) ((Int.ofNat_tmod _ 2).symm)) ?_
          refine TK.take 5 rfl (by decide +kernel) (by decide +kernel) (by decide +kernel) rfl (fun _ _ _ h => h) (fun L_ ⟨k1_, k2_⟩ => V1.move' (by (conv => lhs; whnf) <;> rfl)) ?_
          refine TK.take 6 rfl (by decide +kernel) (by decide +kernel) (by decide +kernel) rfl (fun _ _ _ h => h) (fun L_ ⟨k1_, k2_⟩ => V1.conv (c := 1) ty_3 ty_32 rfl (by decide)) ?_
          refine TK.take 7 rfl (by decide +kernel) (by decide +kernel) (by decide +kernel) rfl (fun _ _ _ h => h) (fun L_ ⟨k1_, k2_⟩ => V1.eqI (r := true) rfl rfl (decide_eq_true (by omega))) ?_
          refine TK.take 8 rfl (by decide +kernel) (by decide +kernel) (by decide +kernel) rfl (fun _ _ _ h => h) (fun L_ ⟨k1_, k2_⟩ => V1.pick rfl (by (conv => lhs; whnf) <;> rfl)) ?_
          refine TK.take 9 rfl (by decide +kernel) (by decide +kernel) (by decide +kernel) rfl (fun _ _ _ h => h) (fun L_ ⟨k1_, k2_⟩ => V1.move' (by (conv => lhs; whnf) <;> rfl)) ?_
          refine TK.take 10 rfl (by decide +kernel) (by decide +kernel) (by decide +kernel) rfl (fun _ _ _ h => h) (fun L_ ⟨k1_, k2_⟩ => V1.fieldAddr fl_55_0 rfl) ?_
          refine TK.take 11 rfl (by decide +kernel) (by decide +kernel) (by decide +kernel) rfl (fun _ _ _ h => h) (fun L_ ⟨k1_, k2_⟩ => V1.load1 one_32 rfl (.own (cells := [.int .u64 (numP (plc r 1 a) : Nat), .slice sa1 (valP (plc r 1 a)).length sc1]) (by repeat (first | exact Find.here | assumption | apply Find.there | apply Find.far)) (by rfl))) ?_
          refine TK.take 12 rfl (by decide +kernel) (by decide +kernel) (by decide +kernel) rfl (fun _ _ _ h => h) (fun L_ ⟨k1_, k2_⟩ => V1.move' (by (conv => lhs; whnf) <;> rfl)) ?_
          refine TK.take 13 rfl (by decide +kernel) (by decide +kernel) (by decide +kernel) rfl (fun _ _ _ h => h) (fun L_ ⟨k1_, k2_⟩ => V1.nilCheck rfl) ?_
          refine TK.take 14 rfl (by decide +kernel) (by decide +kernel) (by decide +kernel) rfl (fun _ _ _ h => h) (fun L_ ⟨k1_, k2_⟩ => V1.fieldAddr fl_57_0 rfl) ?_
          refine TK.take 15 rfl (by decide +kernel) (by decide +kernel) (by decide +kernel) rfl (fun _ _ _ h => h) (fun L_ ⟨k1_, k2_⟩ => V1.fieldAddr fl_55_0 rfl) ?_
          refine TK.take 16 rfl (by decide +kernel) (by decide +kernel) (by decide +kernel) rfl (fun _ _ _ h => h) (fun L_ ⟨k1_, k2_⟩ => V1.load1 one_32 rfl (.own (cells := [.int .u64 0, .slice none 0 0, .pointer (some ⟨bd, 0, none⟩)]) (by repeat (first | exact Find.here | assumption | apply Find.there | apply Find.far)) (by rfl))) ?_
          refine TK.take 17 rfl (by decide +kernel) (by decide +kernel) (by decide +kernel) rfl (fun _ _ _ h => h) (fun L_ ⟨k1_, k2_⟩ => V1.gtI (r := true) rfl rfl (decide_eq_true (by omega))) ?_
          refine TK.take 18 rfl (by decide +kernel) (by decide +kernel) (by decide +kernel) rfl (fun _ _ _ h => h) (fun L_ ⟨k1_, k2_⟩ => V1.pick rfl (by (conv => lhs; whnf) <;> rfl)) ?_
          refine TD.done (by decide +kernel) ?_
          refine T.cond_t rfl ?_
          refine T.live (l := [(0, _), (4, _), (7, _), (14, _)]) (.cons (by (conv => lhs; whnf) <;> rfl) (.cons (by (conv => lhs; whnf) <;> rfl) (.cons (by (conv => lhs; whnf) <;> rfl) (.cons (by (conv => lhs; whnf) <;> rfl) .nil)))) (fun e_ => ?_)
          refine T.region ?_
          refine TL.cons rfl (V1.t (V1.move' (by (conv => lhs; whnf) <;> rfl)) ?_)
          refine TL.cons rfl (V1.t (V1.loadN (vs := [.int .u64 (numP (plc r 1 a) : Nat), .slice sa1 (valP (plc r 1 a)).length sc1]) one_55 sz_55 rfl (RdN.whole (by repeat (first | exact Find.here | assumption | apply Find.there | apply Find.far))) (by rfl)) ?_)
          refine TL.cons rfl (V1.t (V1.nilCheck rfl) ?_)
          refine TL.cons rfl (V1.t (V1.fieldAddr fl_57_0 rfl) ?_)
          refine TL.cons rfl (T1.storeM (o := 0) (cells := [.int .u64 0, .slice none 0 0, .pointer (some ⟨bd, 0, none⟩)]) (vs := [.int .u64 (numP (plc r 1 a) : Nat), .slice sa1 (valP (plc r 1 a)).length sc1]) rfl rfl sz_55 (ones rfl) (by repeat (first | exact Sub.one | apply Sub.there | apply Sub.far)) (Nat.le_refl _) (by simp only [List.length_cons, List.length_nil]; omega) rfl ?_)
          rw [show putN [.int .u64 0, .slice none 0 0, .pointer (some ⟨bd, 0, none⟩)] (0 - 0) [.int .u64 (numP (plc r 1 a) : Nat), .slice sa1 (valP (plc r 1 a)).length sc1] = [.int .u64 (numP (plc r 1 a) : Nat), .slice sa1 (valP (plc r 1 a)).length sc1, .pointer (some ⟨bd, 0, none⟩)] from rfl]
          ·
            refine TL.cons rfl (V1.t (V1.assign' (by (conv => lhs; whnf) <;> rfl)) ?_)
            refine TL.nil ?_
            refine T.region ?_
            refine TL.cons rfl (V1.t (V1.add rfl rfl (wrap_i64 _ (by omega) (by omega))) ?_)
            refine TL.cons rfl (V1.t (V1.move' (by (conv => lhs; whnf) <;> rfl)) ?_)
            refine TL.nil ?_
            refine TR.step ?_
            refine T.seq ?_
            refine T.region ?_
            refine TL.cons rfl (V1.t (V1.ltI rfl rfl (decide_eq_false (by omega))) ?_)
            ·
              refine TL.nil ?_
              refine T.seq ?_
              refine T.cond_f rfl ?_
              refine T.exit ?_
              refine T.seq ?_
              refine T.seq ?_
              refine T.region ?_
              refine TL.cons rfl (V1.t (V1.move' (by (conv => lhs; whnf) <;> rfl)) ?_)
              refine TL.cons rfl (V1.t (V1.not rfl rfl) ?_)
              refine TL.cons rfl (V1.t (V1.move' (by (conv => lhs; whnf) <;> rfl)) ?_)
              refine TL.no rfl ?_
              refine TL.no rfl ?_
              refine TL.no rfl ?_
              refine TL.cons rfl (V1.t (V1.pick rfl (by (conv => lhs; whnf) <;> rfl)) ?_)
              refine TL.nil ?_
              refine T.cond_f rfl ?_
              refine T.skip ?_
              refine T.seq ?_
              refine T.live (l := [(4, _)]) (.cons (by (conv => lhs; whnf) <;> rfl) .nil) (fun e_ => ?_)
              refine T.region ?_
              refine TL.cons rfl (V1.t (V1.move' (by (conv => lhs; whnf) <;> rfl)) ?_)
              refine TL.cons rfl (V1.t (V1.assign' (by (conv => lhs; whnf) <;> rfl)) ?_)
              refine TL.cons rfl (V1.t (V1.assign' (by (conv => lhs; whnf) <;> rfl)) ?_)
              refine TL.nil ?_
              refine T.ret ?_
              exact ⟨_, ⟨b13, 0, [.int .u64 (numP (plc r 1 a) : Nat), .slice sa1 (valP (plc r 1 a)).length sc1, .pointer (some ⟨bd, 0, none⟩)], 3⟩ :: (Ls1 ++ ((⟨bd, 0, [.slice (some ⟨ba, 0, none⟩) a.length a.length, .int .i64 pw], 2⟩ : Blk) :: (⟨ba, 0, List.map byteV a, a.length⟩ : Blk) :: G)), _, .cons (.tmp (by (conv => lhs; whnf) <;> rfl)) (.cons (.tmp (by (conv => lhs; whnf) <;> rfl)) .nil), (by repeat (first | exact Take.nil | apply Take.one (by repeat (first | exact Pick.here | apply Pick.there | apply Pick.far)) | apply Take.seg (by repeat (first | exact PickS.last | exact PickS.one | exact PickS.here | exact PickS.nil | apply PickS.there | apply PickS.far)) | exact Take.last (by repeat (first | exact PickS.last | exact PickS.one | exact PickS.here | exact PickS.nil | apply PickS.there | apply PickS.far)))), (⟨b13, 0, [.int .u64 (numP (plc r 1 a) : Nat), .slice sa1 (valP (plc r 1 a)).length sc1, .pointer (some ⟨bd, 0, none⟩)], 3⟩ :: Ls1) ++ [(⟨bd, 0, [.slice (some ⟨ba, 0, none⟩) a.length a.length, .int .i64 pw], 2⟩ : Blk), (⟨ba, 0, List.map byteV a, a.length⟩ : Blk)], by simp, by rw [openP_y hok1.symm hp1 (fun h => hx0 ⟨h.1, h.2.1⟩)]; exact ⟨b13, ⟨b13, 0, [.int .u64 (numP (plc r 1 a) : Nat), .slice sa1 (valP (plc r 1 a)).length sc1, .pointer (some ⟨bd, 0, none⟩)], 3⟩ :: Ls1, rfl, ⟨_, Ls1, rfl, hs1⟩, rfl⟩⟩
        ·
          obtain ⟨rfl, rfl⟩ := hv1 rfl
          have hy1 : ¬ (okP (plc r 1 a) = true ∧ numP (plc r 1 a) % 2 = 1) := fun h => hp1 h.2
          refine TL.cons rfl (V1.t (V1.move' (by (conv => lhs; whnf) <;> rfl)) ?_)
          refine TL.cons rfl (V1.t (V1.extract rfl (by rfl)) ?_)
          refine TL.cons rfl (V1.t (V1.extract rfl (by rfl)) ?_)
          refine TL.cons rfl (T1.allocN 2 zr_55 rfl (fun b7 => ?_))
          refine TL.cons rfl (T1.storeN (vs := [.int .u64 (numP (plc r 1 a) : Nat), .slice sa1 (valP (plc r 1 a)).length sc1]) rfl rfl sz_55 (ones rfl) (by repeat (first | exact Sub.one | apply Sub.there | apply Sub.far)) (by rfl) (by rfl) ?_)
          refine TL.cons rfl (V1.t (V1.assign' rfl) ?_)
          refine TL.nil ?_
          refine T.seq ?_
          refine T.drawK (fun L_ => Find L_ ⟨b7, 0, [.int .u64 (numP (plc r 1 a) : Nat), .slice sa1 (valP (plc r 1 a)).length sc1], 2⟩ ∧ Find L_ ⟨b13, 0, [.int .u64 0, .slice none 0 0, .pointer (some ⟨bd, 0, none⟩)], 3⟩) mixed ⟨(by repeat (first | exact Find.here | assumption | apply Find.there | apply Find.far)), (by repeat (first | exact Find.here | assumption | apply Find.there | apply Find.far))⟩ ?_
          refine TK.take 0 rfl (by decide +kernel) (by decide +kernel) (by decide +kernel) rfl (fun _ _ _ h => h) (fun L_ ⟨k1_, k2_⟩ => V1.move' (by (conv => lhs; whnf) <;> rfl)) ?_
          refine TK.take 1 rfl (by decide +kernel) (by decide +kernel) (by decide +kernel) rfl (fun _ _ _ h => h) (fun L_ ⟨k1_, k2_⟩ => V1.move' (by (conv => lhs; whnf) <;> rfl)) ?_
          refine TK.take 2 rfl (by decide +kernel) (by decide +kernel) (by decide +kernel) rfl (fun _ _ _ h => h) (fun L_ ⟨k1_, k2_⟩ => V1.fieldAddr fl_55_0 rfl) ?_
          refine TK.take 3 rfl (by decide +kernel) (by decide +kernel) (by decide +kernel) rfl (fun _ _ _ h => h) (fun L_ ⟨k1_, k2_⟩ => V1.load1 one_32 rfl (.own (cells := [.int .u64 (numP (plc r 1 a) : Nat), .slice sa1 (valP (plc r 1 a)).length sc1]) (by repeat (first | exact Find.here | assumption | apply Find.there | apply Find.far)) (by rfl))) ?_
          refine TK.take 4 rfl (by decide +kernel) (by decide +kernel) (by decide +kernel) rfl (fun _ _ _ h => h) (fun L_ ⟨k1_, k2_⟩ => V1.rem (c := ((numP (plc r 1 a) % 2 : Nat) : Int)) rfl rfl (by decide) ((Int.ofNat_tmod _ 2).symm)) ?_
          refine TK.take 5 rfl (by decide +kernel) (by decide +kernel) (by decide +kernel) rfl (fun _ _ _ h => h) (fun L_ ⟨k1_, k2_⟩ => V1.move' (by (conv => lhs; whnf) <;> rfl)) ?_
          refine TK.take 6 rfl (by decide +kernel) (by decide +kernel) (by decide +kernel) rfl (fun _ _ _ h => h) (fun L_ ⟨k1_, k2_⟩ => V1.conv (c := 1) ty_3 ty_32 rfl (by decide)) ?_
          refine TK.take 7 rfl (by decide +kernel) (by decide +kernel) (by decide +kernel) rfl (fun _ _ _ h => h) (fun L_ ⟨k1_, k2_⟩ => V1.eqI (r := false) rfl rfl (decide_eq_false (by omega))) ?_
          refine TK.take 8 rfl (by decide +kernel) (by decide +kernel) (by decide +kernel) rfl (fun _ _ _ h => h) (fun L_ ⟨k1_, k2_⟩ => V1.pick rfl (by (conv => lhs; whnf) <;> rfl)) ?_
          refine TK.take 9 rfl (by decide +kernel) (by decide +kernel) (by decide +kernel) rfl (fun _ _ _ h => h) (fun L_ ⟨k1_, k2_⟩ => V1.move' (by (conv => lhs; whnf) <;> rfl)) ?_
          refine TD.takeNo (i := 10) rfl (by decide +kernel) (by decide +kernel) (by decide +kernel) rfl (fun _ _ _ h => h) ?_
          refine TD.takeNo (i := 11) rfl (by decide +kernel) (by decide +kernel) (by decide +kernel) rfl (fun _ _ _ h => h) ?_
          refine TD.takeNo (i := 12) rfl (by decide +kernel) (by decide +kernel) (by decide +kernel) rfl (fun _ _ _ h => h) ?_
          refine TD.takeNo (i := 13) rfl (by decide +kernel) (by decide +kernel) (by decide +kernel) rfl (fun _ _ _ h => h) ?_
          refine TD.takeNo (i := 14) rfl (by decide +kernel) (by decide +kernel) (by decide +kernel) rfl (fun _ _ _ h => h) ?_
          refine TD.takeNo (i := 15) rfl (by decide +kernel) (by decide +kernel) (by decide +kernel) rfl (fun _ _ _ h => h) ?_
          refine TD.takeNo (i := 16) rfl (by decide +kernel) (by decide +kernel) (by decide +kernel) rfl (fun _ _ _ h => h) ?_
          refine TD.takeNo (i := 17) rfl (by decide +kernel) (by decide +kernel) (by decide +kernel) rfl (fun _ _ _ h => h) ?_
          refine TK.take 18 rfl (by decide +kernel) (by decide +kernel) (by decide +kernel) rfl (fun _ _ _ h => h) (fun L_ ⟨k1_, k2_⟩ => V1.pick rfl (by (conv => lhs; whnf) <;> rfl)) ?_
          refine TD.done (by decide +kernel) ?_
          refine T.cond_f rfl ?_
          refine T.skip ?_
          refine T.live (l := [(0, _), (4, _), (5, _), (14, _)]) (.cons (by (conv => lhs; whnf) <;> rfl) (.cons (by (conv => lhs; whnf) <;> rfl) (.cons (by (conv => lhs; whnf) <;> rfl) (.cons (by (conv => lhs; whnf) <;> rfl) .nil)))) (fun e_ => ?_)
          refine T.region ?_
          refine TL.cons rfl (V1.t (V1.add rfl rfl (wrap_i64 _ (by omega) (by omega))) ?_)
          refine TL.cons rfl (V1.t (V1.move' (by (conv => lhs; whnf) <;> rfl)) ?_)
          refine TL.nil ?_
          refine TR.step ?_
          refine T.seq ?_
          refine T.region ?_
          refine TL.cons rfl (V1.t (V1.ltI rfl rfl (decide_eq_false (by omega))) ?_)
          ·
            refine TL.nil ?_
            refine T.seq ?_
            refine T.cond_f rfl ?_
            refine T.exit ?_
            refine T.seq ?_
            refine T.seq ?_
            refine T.region ?_
            refine TL.cons rfl (V1.t (V1.move' (by (conv => lhs; whnf) <;> rfl)) ?_)
            refine TL.cons rfl (V1.t (V1.not rfl rfl) ?_)
            refine TL.cons rfl (V1.t (V1.move' (by (conv => lhs; whnf) <;> rfl)) ?_)
            refine TL.cons rfl (V1.t (V1.move' (by (conv => lhs; whnf) <;> rfl)) ?_)
            refine TL.cons rfl (T1.callX (X := [(⟨bd, 0, [.slice (some ⟨ba, 0, none⟩) a.length a.length, .int .i64 pw], 2⟩ : Blk), (⟨ba, 0, List.map byteV a, a.length⟩ : Blk)]) has_19 rfl (blank_any _ bd ba a pw hal) (by repeat (first | exact Take.nil | apply Take.one (by repeat (first | exact Pick.here | apply Pick.there | apply Pick.far)) | apply Take.seg (by repeat (first | exact PickS.last | exact PickS.one | exact PickS.here | exact PickS.nil | apply PickS.there | apply PickS.far)) | exact Take.last (by repeat (first | exact PickS.last | exact PickS.one | exact PickS.here | exact PickS.nil | apply PickS.there | apply PickS.far)))) (fun v Y hY => ?_))
            obtain ⟨rfl, rfl⟩ := hY
            simp only [List.cons_append, List.nil_append]
            refine TL.cons rfl (V1.t (V1.not rfl rfl) ?_)
            refine TL.cons rfl (V1.t (V1.pick rfl (by (conv => lhs; whnf) <;> rfl)) ?_)
            refine TL.nil ?_
            refine T.cond_split rfl (fun hc => ?_) (fun hc => ?_)
            ·
              refine T.seq ?_
              refine T.drawK (fun L_ => Find L_ (⟨bd, 0, [.slice (some ⟨ba, 0, none⟩) a.length a.length, .int .i64 pw], 2⟩ : Blk)) mixed (by repeat (first | exact Find.here | assumption | apply Find.there | apply Find.far)) ?_
              refine TK.take 0 rfl (by decide +kernel) (by decide +kernel) (by decide +kernel) rfl (fun _ _ _ h => h) (fun L_ k1_ => V1.move' (by (conv => lhs; whnf) <;> rfl)) ?_
              refine TK.take 1 rfl (by decide +kernel) (by decide +kernel) (by decide +kernel) rfl (fun _ _ _ h => h) (fun L_ k1_ => V1.nilCheck rfl) ?_
              refine TK.take 2 rfl (by decide +kernel) (by decide +kernel) (by decide +kernel) rfl (fun _ _ _ h => h) (fun L_ k1_ => V1.fieldAddr fl_53_0 rfl) ?_
              refine TK.take 3 rfl (by decide +kernel) (by decide +kernel) (by decide +kernel) rfl (fun _ _ _ h => h) (fun L_ k1_ => V1.load1 one_33 rfl (.own (cells := [.slice (some ⟨ba, 0, none⟩) a.length a.length, .int .i64 pw]) (by repeat (first | exact Find.here | assumption | apply Find.there | apply Find.far)) (by rfl))) ?_
              refine TK.take 4 rfl (by decide +kernel) (by decide +kernel) (by decide +kernel) rfl (fun _ _ _ h => h) (fun L_ k1_ => V1.move' (by (conv => lhs; whnf) <;> rfl)) ?_
              refine TK.take 8 rfl (by decide +kernel) (by decide +kernel) (by decide +kernel) rfl (fun _ _ _ h => h) (fun L_ k1_ => V1.move' (by (conv => lhs; whnf) <;> rfl)) ?_
              refine TK.one 5 (by decide +kernel) rfl rfl (T1.callX (X := [(⟨bd, 0, [.slice (some ⟨ba, 0, none⟩) a.length a.length, .int .i64 pw], 2⟩ : Blk)]) has_20 rfl (room_any _ bd ba a.length pw hal) (by repeat (first | exact Take.nil | apply Take.one (by repeat (first | exact Pick.here | apply Pick.there | apply Pick.far)) | apply Take.seg (by repeat (first | exact PickS.last | exact PickS.one | exact PickS.here | exact PickS.nil | apply PickS.there | apply PickS.far)) | exact Take.last (by repeat (first | exact PickS.last | exact PickS.one | exact PickS.here | exact PickS.nil | apply PickS.there | apply PickS.far)))) (fun v Y hY => ?_))
              obtain ⟨rfl, rfl⟩ := hY
              simp only [List.cons_append, List.nil_append]
              rw [show a.length / 2 = r from by omega]
              refine ⟨(by repeat (first | exact Find.here | assumption | apply Find.there | apply Find.far)), ?_⟩
              refine TK.take 6 rfl (by decide +kernel) (by decide +kernel) (by decide +kernel) rfl (fun _ _ _ h => h) (fun L_ k1_ => V1.sliceTo r ty_33 sz_5 rfl rfl rfl (by omega) (Nat.le_refl _)) ?_
              refine TK.take 7 rfl (by decide +kernel) (by decide +kernel) (by decide +kernel) rfl (fun _ _ _ h => h) (fun L_ k1_ => V1.lenSl ty_33 rfl) ?_
              refine TD.done (by decide +kernel) ?_
              refine T.block ?_
              refine T.loopL (σ := Nat) (l0 := [(4, _), (60, _), (61, _)]) (fun x => [(62, .int .i64 (x : Nat))]) (fun k L => L = ⟨b13, 0, [.int .u64 0, .slice none 0 0, .pointer (some ⟨bd, 0, none⟩)], 3⟩ :: (⟨bd, 0, [.slice (some ⟨ba, 0, none⟩) a.length a.length, .int .i64 pw], 2⟩ : Blk) :: (⟨ba, 0, List.map byteV a, a.length⟩ : Blk) :: G ∧ k ≤ r ∧ (∀ y ∈ a.take k, y = 0)) (fun x => r - x) 0 (.cons rfl .nil) (.cons (by (conv => lhs; whnf) <;> rfl) (.cons (by (conv => lhs; whnf) <;> rfl) (.cons (by (conv => lhs; whnf) <;> rfl) .nil))) (by repeat (first | exact Take.nil | apply Take.one (by repeat (first | exact Pick.here | apply Pick.there | apply Pick.far)) | apply Take.seg (by repeat (first | exact PickS.last | exact PickS.one | exact PickS.here | exact PickS.nil | apply PickS.there | apply PickS.far)) | exact Take.last (by repeat (first | exact PickS.last | exact PickS.one | exact PickS.here | exact PickS.nil | apply PickS.there | apply PickS.far)))) (⟨rfl, Nat.zero_le _, by simp⟩) ?_
              rintro k e_ L ⟨rfl, hk, hz⟩
              refine T.seq ?_
              refine T.region ?_
              refine TL.cons rfl (T1.ltI_split rfl rfl (fun h12 => ?_) (fun h12 => ?_))
              ·
                obtain ⟨x, hx⟩ : ∃ z, a[k]? = some z := ⟨_, List.getElem?_eq_getElem (by omega)⟩
                refine TL.nil ?_
                refine T.seq ?_
                refine T.cond_t rfl ?_
                refine T.skip ?_
                refine T.seq ?_
                refine T.block ?_
                refine T.seq ?_
                refine T.region ?_
                refine TL.cons rfl (V1.t (V1.indexAddrS ty_33 sz_5 rfl rfl (by omega) (by omega)) ?_)
                refine TL.cons rfl (V1.t (V1.load1 one_5 rfl (show Rd _ _ ⟨ba, 0 + k * 1, none⟩ (byteV x) from by rw [Nat.mul_one]; exact Rd.at (cells := List.map byteV a) (by repeat (first | exact Find.here | assumption | apply Find.there | apply Find.far)) (by rw [List.getElem?_map, hx]; rfl))) ?_)
                refine TL.cons rfl (V1.t (V1.assign' (by (conv => lhs; whnf) <;> rfl)) ?_)
                refine TL.nil ?_
                refine T.seq ?_
                refine T.region ?_
                refine TL.cons rfl (V1.t (V1.move' (by (conv => lhs; whnf) <;> rfl)) ?_)
                refine TL.cons rfl (T1.neI_split rfl rfl (fun h14 => ?_) (fun h14 => ?_))
                ·
                  refine TL.nil ?_
                  refine T.cond_t rfl ?_
                  refine T.seq ?_
                  refine T.region ?_
                  refine TL.cons rfl (V1.t (V1.assign' (by (conv => lhs; whnf) <;> rfl)) ?_)
                  refine TL.cons rfl (V1.t (V1.assign' (by (conv => lhs; whnf) <;> rfl)) ?_)
                  refine TL.nil ?_
                  refine T.ret ?_
                  have hpx : plc r 0 a = a.take r := by unfold plc; rw [Nat.zero_mul, List.drop_zero]
                  exact ⟨_, (⟨bd, 0, [.slice (some ⟨ba, 0, none⟩) a.length a.length, .int .i64 pw], 2⟩ : Blk) :: (⟨ba, 0, List.map byteV a, a.length⟩ : Blk) :: G, _, .cons (.tmp (by (conv => lhs; whnf) <;> rfl)) (.cons (.tmp (by (conv => lhs; whnf) <;> rfl)) .nil), (by repeat (first | exact Take.nil | apply Take.one (by repeat (first | exact Pick.here | apply Pick.there | apply Pick.far)) | apply Take.seg (by repeat (first | exact PickS.last | exact PickS.one | exact PickS.here | exact PickS.nil | apply PickS.there | apply PickS.far)) | exact Take.last (by repeat (first | exact PickS.last | exact PickS.one | exact PickS.here | exact PickS.nil | apply PickS.there | apply PickS.far)))), [(⟨bd, 0, [.slice (some ⟨ba, 0, none⟩) a.length a.length, .int .i64 pw], 2⟩ : Blk), (⟨ba, 0, List.map byteV a, a.length⟩ : Blk)], rfl, by rw [openP_n hx0 hy1 (b := x) (by rw [hpx]; exact List.mem_of_getElem? (show (a.take r)[k]? = some x by rw [List.getElem?_take, if_pos (by omega)]; exact hx)) (by rintro rfl; exact h14 rfl)]; exact ⟨rfl, rfl⟩⟩
                ·
                  have hx00 : x = 0 := by apply UInt8.toNat_inj.1; show x.toNat = 0; omega
                  refine TL.nil ?_
                  refine T.cond_f rfl ?_
                  refine T.skip ?_
                  refine T.region ?_
                  refine TL.cons rfl (V1.t (V1.add rfl rfl (wrap_i64 _ (by omega) (by omega))) ?_)
                  refine TL.cons rfl (V1.t (V1.move' (by (conv => lhs; whnf) <;> rfl)) ?_)
                  refine TL.nil ?_
                  exact ⟨k + 1, _, _, (by simp only; omega), (.cons rfl .nil), (.cons rfl (.cons rfl (.cons rfl .nil))), (by repeat (first | exact Take.nil | apply Take.one (by repeat (first | exact Pick.here | apply Pick.there | apply Pick.far)) | apply Take.seg (by repeat (first | exact PickS.last | exact PickS.one | exact PickS.here | exact PickS.nil | apply PickS.there | apply PickS.far)) | exact Take.last (by repeat (first | exact PickS.last | exact PickS.one | exact PickS.here | exact PickS.nil | apply PickS.there | apply PickS.far)))), ⟨rfl, by omega, (all_take hx).2 ⟨hz, hx00⟩⟩⟩
              ·
                have hkr : k = r := by omega
                rw [hkr] at hz
                refine TL.nil ?_
                refine T.seq ?_
                refine T.cond_f rfl ?_
                refine T.exit ?_
                refine T.seq ?_
                refine T.region ?_
                refine TL.cons rfl (V1.t (V1.move' (by (conv => lhs; whnf) <;> rfl)) ?_)
                refine TL.cons rfl (V1.t (V1.assign' (by (conv => lhs; whnf) <;> rfl)) ?_)
                refine TL.cons rfl (V1.t (V1.assign' (by (conv => lhs; whnf) <;> rfl)) ?_)
                refine TL.nil ?_
                refine T.ret ?_
                have hpx : plc r 0 a = a.take r := by unfold plc; rw [Nat.zero_mul, List.drop_zero]
                exact ⟨_, ⟨b13, 0, [.int .u64 0, .slice none 0 0, .pointer (some ⟨bd, 0, none⟩)], 3⟩ :: (⟨bd, 0, [.slice (some ⟨ba, 0, none⟩) a.length a.length, .int .i64 pw], 2⟩ : Blk) :: (⟨ba, 0, List.map byteV a, a.length⟩ : Blk) :: G, _, .cons (.tmp (by (conv => lhs; whnf) <;> rfl)) (.cons (.tmp (by (conv => lhs; whnf) <;> rfl)) .nil), (by repeat (first | exact Take.nil | apply Take.one (by repeat (first | exact Pick.here | apply Pick.there | apply Pick.far)) | apply Take.seg (by repeat (first | exact PickS.last | exact PickS.one | exact PickS.here | exact PickS.nil | apply PickS.there | apply PickS.far)) | exact Take.last (by repeat (first | exact PickS.last | exact PickS.one | exact PickS.here | exact PickS.nil | apply PickS.there | apply PickS.far)))), [⟨b13, 0, [.int .u64 0, .slice none 0 0, .pointer (some ⟨bd, 0, none⟩)], 3⟩] ++ [(⟨bd, 0, [.slice (some ⟨ba, 0, none⟩) a.length a.length, .int .i64 pw], 2⟩ : Blk), (⟨ba, 0, List.map byteV a, a.length⟩ : Blk)], rfl, by rw [openP_0 hx0 hy1 (by rw [hpx]; first | exact hz | (have hall : ∀ y ∈ a, y = 0 := (by simpa using hc); exact fun y hy => hall y (List.mem_of_mem_take hy)))]; exact ⟨b13, [⟨b13, 0, [.int .u64 0, .slice none 0 0, .pointer (some ⟨bd, 0, none⟩)], 3⟩], rfl, ⟨_, [], rfl, Sl.nil⟩, rfl⟩⟩
            ·
              refine T.skip ?_
              refine T.seq ?_
              refine T.region ?_
              refine TL.cons rfl (V1.t (V1.move' (by (conv => lhs; whnf) <;> rfl)) ?_)
              refine TL.cons rfl (V1.t (V1.assign' (by (conv => lhs; whnf) <;> rfl)) ?_)
              refine TL.cons rfl (V1.t (V1.assign' (by (conv => lhs; whnf) <;> rfl)) ?_)
              refine TL.nil ?_
              refine T.ret ?_
              have hpx : plc r 0 a = a.take r := by unfold plc; rw [Nat.zero_mul, List.drop_zero]
              exact ⟨_, ⟨b13, 0, [.int .u64 0, .slice none 0 0, .pointer (some ⟨bd, 0, none⟩)], 3⟩ :: (⟨bd, 0, [.slice (some ⟨ba, 0, none⟩) a.length a.length, .int .i64 pw], 2⟩ : Blk) :: (⟨ba, 0, List.map byteV a, a.length⟩ : Blk) :: G, _, .cons (.tmp (by (conv => lhs; whnf) <;> rfl)) (.cons (.tmp (by (conv => lhs; whnf) <;> rfl)) .nil), (by repeat (first | exact Take.nil | apply Take.one (by repeat (first | exact Pick.here | apply Pick.there | apply Pick.far)) | apply Take.seg (by repeat (first | exact PickS.last | exact PickS.one | exact PickS.here | exact PickS.nil | apply PickS.there | apply PickS.far)) | exact Take.last (by repeat (first | exact PickS.last | exact PickS.one | exact PickS.here | exact PickS.nil | apply PickS.there | apply PickS.far)))), [⟨b13, 0, [.int .u64 0, .slice none 0 0, .pointer (some ⟨bd, 0, none⟩)], 3⟩] ++ [(⟨bd, 0, [.slice (some ⟨ba, 0, none⟩) a.length a.length, .int .i64 pw], 2⟩ : Blk), (⟨ba, 0, List.map byteV a, a.length⟩ : Blk)], rfl, by rw [openP_0 hx0 hy1 (by rw [hpx]; first | exact hz | (have hall : ∀ y ∈ a, y = 0 := (by simpa using hc); exact fun y hy => hall y (List.mem_of_mem_take hy)))]; exact ⟨b13, [⟨b13, 0, [.int .u64 0, .slice none 0 0, .pointer (some ⟨bd, 0, none⟩)], 3⟩], rfl, ⟨_, [], rfl, Sl.nil⟩, rfl⟩⟩
    ·
      obtain ⟨rfl, rfl⟩ := hv0 rfl
      have hg0 := (okP_pos hok0.symm).1
      refine TL.cons rfl (V1.t (V1.move' (by (conv => lhs; whnf) <;> rfl)) ?_)
      refine TL.cons rfl (V1.t (V1.extract rfl (by rfl)) ?_)
      refine TL.cons rfl (V1.t (V1.extract rfl (by rfl)) ?_)
      refine TL.cons rfl (T1.allocN 2 zr_55 rfl (fun b7 => ?_))
      refine TL.cons rfl (T1.storeN (vs := [.int .u64 (numP (plc r 0 a) : Nat), .slice sa0 (valP (plc r 0 a)).length sc0]) rfl rfl sz_55 (ones rfl) (by repeat (first | exact Sub.one | apply Sub.there | apply Sub.far)) (by rfl) (by rfl) ?_)
      refine TL.cons rfl (V1.t (V1.assign' rfl) ?_)
      refine TL.nil ?_
      refine T.seq ?_
      refine T.live (l := [(0, _), (4, _), (5, _), (6, _), (7, _), (8, _), (14, _)]) (.cons (by (conv => lhs; whnf) <;> rfl) (.cons (by (conv => lhs; whnf) <;> rfl) (.cons (by (conv => lhs; whnf) <;> rfl) (.cons (by (conv => lhs; whnf) <;> rfl) (.cons (by (conv => lhs; whnf) <;> rfl) (.cons (by (conv => lhs; whnf) <;> rfl) (.cons (by (conv => lhs; whnf) <;> rfl) .nil))))))) (fun e_ => ?_)
      refine T.drawK (fun L_ => Find L_ ⟨b7, 0, [.int .u64 (numP (plc r 0 a) : Nat), .slice sa0 (valP (plc r 0 a)).length sc0], 2⟩ ∧ Find L_ ⟨b13, 0, [.int .u64 0, .slice none 0 0, .pointer (some ⟨bd, 0, none⟩)], 3⟩) mixed ⟨(by repeat (first | exact Find.here | assumption | apply Find.there | apply Find.far)), (by repeat (first | exact Find.here | assumption | apply Find.there | apply Find.far))⟩ ?_
      refine TK.take 0 rfl (by decide +kernel) (by decide +kernel) (by decide +kernel) rfl (fun _ _ _ h => h) (fun L_ ⟨k1_, k2_⟩ => V1.move' (by (conv => lhs; whnf) <;> rfl)) ?_
      refine TK.take 1 rfl (by decide +kernel) (by decide +kernel) (by decide +kernel) rfl (fun _ _ _ h => h) (fun L_ ⟨k1_, k2_⟩ => V1.move' (by (conv => lhs; whnf) <;> rfl)) ?_
      refine TK.take 2 rfl (by decide +kernel) (by decide +kernel) (by decide +kernel) rfl (fun _ _ _ h => h) (fun L_ ⟨k1_, k2_⟩ => V1.fieldAddr fl_55_0 rfl) ?_
      refine TK.take 3 rfl (by decide +kernel) (by decide +kernel) (by decide +kernel) rfl (fun _ _ _ h => h) (fun L_ ⟨k1_, k2_⟩ => V1.load1 one_32 rfl (.own (cells := [.int .u64 (numP (plc r 0 a) : Nat), .slice sa0 (valP (plc r 0 a)).length sc0]) (by repeat (first | exact Find.here | assumption | apply Find.there | apply Find.far)) (by rfl))) ?_
      refine TK.take 4 rfl (by decide +kernel) (by decide +kernel) (by decide +kernel) rfl (fun _ _ _ h => h) (fun L_ ⟨k1_, k2_⟩ => V1.rem (c := ((numP (plc r 0 a) % 2 : Nat) : Int)) rfl rfl (by decide) ((Int.ofNat_tmod _ 2).symm)) ?_
      refine TK.take 5 rfl (by decide +kernel) (by decide +kernel) (by decide +kernel) rfl (fun _ _ _ h => h) (fun L_ ⟨k1_, k2_⟩ => V1.move' (by (conv => lhs; whnf) <;> rfl)) ?_
      refine TK.take 6 rfl (by decide +kernel) (by decide +kernel) (by decide +kernel) rfl (fun _ _ _ h => h) (fun L_ ⟨k1_, k2_⟩ => V1.conv (c := 0) ty_3 ty_32 rfl (by decide)) ?_
      refine TK.take 7 rfl (by decide +kernel) (by decide +kernel) (by decide +kernel) rfl (fun _ _ _ h => h) (fun L_ ⟨k1_, k2_⟩ => V1.eqI (r := true) rfl rfl (decide_eq_true (by omega))) ?_
      refine TK.take 8 rfl (by decide +kernel) (by decide +kernel) (by decide +kernel) rfl (fun _ _ _ h => h) (fun L_ ⟨k1_, k2_⟩ => V1.pick rfl (by (conv => lhs; whnf) <;> rfl)) ?_
      refine TK.take 9 rfl (by decide +kernel) (by decide +kernel) (by decide +kernel) rfl (fun _ _ _ h => h) (fun L_ ⟨k1_, k2_⟩ => V1.move' (by (conv => lhs; whnf) <;> rfl)) ?_
      refine TK.take 10 rfl (by decide +kernel) (by decide +kernel) (by decide +kernel) rfl (fun _ _ _ h => h) (fun L_ ⟨k1_, k2_⟩ => V1.fieldAddr fl_55_0 rfl) ?_
      refine TK.take 11 rfl (by decide +kernel) (by decide +kernel) (by decide +kernel) rfl (fun _ _ _ h => h) (fun L_ ⟨k1_, k2_⟩ => V1.load1 one_32 rfl (.own (cells := [.int .u64 (numP (plc r 0 a) : Nat), .slice sa0 (valP (plc r 0 a)).length sc0]) (by repeat (first | exact Find.here | assumption | apply Find.there | apply Find.far)) (by rfl))) ?_
      refine TK.take 12 rfl (by decide +kernel) (by decide +kernel) (by decide +kernel) rfl (fun _ _ _ h => h) (fun L_ ⟨k1_, k2_⟩ => V1.move' (by (conv => lhs; whnf) <;> rfl)) ?_
      refine TK.take 13 rfl (by decide +kernel) (by decide +kernel) (by decide +kernel) rfl (fun _ _ _ h => h) (fun L_ ⟨k1_, k2_⟩ => V1.nilCheck rfl) ?_
      refine TK.take 14 rfl (by decide +kernel) (by decide +kernel) (by decide +kernel) rfl (fun _ _ _ h => h) (fun L_ ⟨k1_, k2_⟩ => V1.fieldAddr fl_57_0 rfl) ?_
      refine TK.take 15 rfl (by decide +kernel) (by decide +kernel) (by decide +kernel) rfl (fun _ _ _ h => h) (fun L_ ⟨k1_, k2_⟩ => V1.fieldAddr fl_55_0 rfl) ?_
      refine TK.take 16 rfl (by decide +kernel) (by decide +kernel) (by decide +kernel) rfl (fun _ _ _ h => h) (fun L_ ⟨k1_, k2_⟩ => V1.load1 one_32 rfl (.own (cells := [.int .u64 0, .slice none 0 0, .pointer (some ⟨bd, 0, none⟩)]) (by repeat (first | exact Find.here | assumption | apply Find.there | apply Find.far)) (by rfl))) ?_
      refine TK.take 17 rfl (by decide +kernel) (by decide +kernel) (by decide +kernel) rfl (fun _ _ _ h => h) (fun L_ ⟨k1_, k2_⟩ => V1.gtI (r := true) rfl rfl (decide_eq_true (by omega))) ?_
      refine TK.take 18 rfl (by decide +kernel) (by decide +kernel) (by decide +kernel) rfl (fun _ _ _ h => h) (fun L_ ⟨k1_, k2_⟩ => V1.pick rfl (by (conv => lhs; whnf) <;> rfl)) ?_
      refine TD.done (by decide +kernel) ?_
      refine T.cond_t rfl ?_
      refine T.live (l := [(0, _), (4, _), (7, _), (14, _)]) (.cons (by (conv => lhs; whnf) <;> rfl) (.cons (by (conv => lhs; whnf) <;> rfl) (.cons (by (conv => lhs; whnf) <;> rfl) (.cons (by (conv => lhs; whnf) <;> rfl) .nil)))) (fun e_ => ?_)
      refine T.region ?_
      refine TL.cons rfl (V1.t (V1.move' (by (conv => lhs; whnf) <;> rfl)) ?_)
      refine TL.cons rfl (V1.t (V1.loadN (vs := [.int .u64 (numP (plc r 0 a) : Nat), .slice sa0 (valP (plc r 0 a)).length sc0]) one_55 sz_55 rfl (RdN.whole (by repeat (first | exact Find.here | assumption | apply Find.there | apply Find.far))) (by rfl)) ?_)
      refine TL.cons rfl (V1.t (V1.nilCheck rfl) ?_)
      refine TL.cons rfl (V1.t (V1.fieldAddr fl_57_0 rfl) ?_)
      refine TL.cons rfl (T1.storeM (o := 0) (cells := [.int .u64 0, .slice none 0 0, .pointer (some ⟨bd, 0, none⟩)]) (vs := [.int .u64 (numP (plc r 0 a) : Nat), .slice sa0 (valP (plc r 0 a)).length sc0]) rfl rfl sz_55 (ones rfl) (by repeat (first | exact Sub.one | apply Sub.there | apply Sub.far)) (Nat.le_refl _) (by simp only [List.length_cons, List.length_nil]; omega) rfl ?_)
      rw [show putN [.int .u64 0, .slice none 0 0, .pointer (some ⟨bd, 0, none⟩)] (0 - 0) [.int .u64 (numP (plc r 0 a) : Nat), .slice sa0 (valP (plc r 0 a)).length sc0] = [.int .u64 (numP (plc r 0 a) : Nat), .slice sa0 (valP (plc r 0 a)).length sc0, .pointer (some ⟨bd, 0, none⟩)] from rfl]
      ·
        refine TL.cons rfl (V1.t (V1.assign' (by (conv => lhs; whnf) <;> rfl)) ?_)
        refine TL.nil ?_
        refine T.region ?_
        refine TL.cons rfl (V1.t (V1.add rfl rfl (wrap_i64 _ (by omega) (by omega))) ?_)
        refine TL.cons rfl (V1.t (V1.move' (by (conv => lhs; whnf) <;> rfl)) ?_)
        refine TL.nil ?_
        refine TR.step ?_
        refine T.seq ?_
        refine T.region ?_
        refine TL.cons rfl (V1.t (V1.ltI rfl rfl (decide_eq_true (by omega))) ?_)
        ·
          refine TL.nil ?_
          refine T.seq ?_
          refine T.cond_t rfl ?_
          refine T.skip ?_
          refine T.seq ?_
          refine T.block ?_
          refine T.seq ?_
          refine T.region ?_
          refine TL.cons rfl (V1.t (V1.move' (by (conv => lhs; whnf) <;> rfl)) ?_)
          refine TL.cons rfl (V1.t (V1.assign' (by (conv => lhs; whnf) <;> rfl)) ?_)
          refine TL.nil ?_
          refine T.seq ?_
          refine T.region ?_
          refine TL.cons rfl (V1.t (V1.move' (by (conv => lhs; whnf) <;> rfl)) ?_)
          refine TL.cons rfl (V1.t (V1.move' (by (conv => lhs; whnf) <;> rfl)) ?_)
          refine TL.cons rfl (T1.callX (X := [(⟨bd, 0, [.slice (some ⟨ba, 0, none⟩) a.length a.length, .int .i64 pw], 2⟩ : Blk), (⟨ba, 0, List.map byteV a, a.length⟩ : Blk)]) has_18 rfl (look_any _ bd ba r 1 a pw ha hr1 hr2 (by decide)) (by repeat (first | exact Take.nil | apply Take.one (by repeat (first | exact Pick.here | apply Pick.there | apply Pick.far)) | apply Take.seg (by repeat (first | exact PickS.last | exact PickS.one | exact PickS.here | exact PickS.nil | apply PickS.there | apply PickS.far)) | exact Take.last (by repeat (first | exact PickS.last | exact PickS.one | exact PickS.here | exact PickS.nil | apply PickS.there | apply PickS.far)))) (fun v1 Y1 hY1 => ?_))
          obtain ⟨n1, s1, vv1, Ls1, ok1, rfl, rfl, hs1, hok1, hv1⟩ := hY1
          obtain ⟨sa1, sc1, rfl⟩ := (PartR.own (w0 := w0) (Ps := Ls1) hs1 (fun _ h => h)).form
          simp only [List.append_assoc, List.cons_append, List.nil_append]
          rcases (show ok1 = false ∨ (ok1 = true ∧ n1 % 2 = 1 ∧ numP (plc r 0 a) < n1) ∨ (ok1 = true ∧ n1 % 2 ≠ 1) ∨ (ok1 = true ∧ n1 % 2 = 1 ∧ ¬ numP (plc r 0 a) < n1) by cases ok1 with | false => exact .inl rfl | true => rcases Decidable.em (n1 % 2 = 1) with h | h; rcases Decidable.em (numP (plc r 0 a) < n1) with g | g; exact .inr (.inl ⟨rfl, h, g⟩); exact .inr (.inr (.inr ⟨rfl, h, g⟩)); exact .inr (.inr (.inl ⟨rfl, h⟩))) with rfl | ⟨rfl, hp1, hg1⟩ | ⟨rfl, hp1⟩ | ⟨rfl, hp1, hg1⟩
          ·
            have hy1 : ¬ (okP (plc r 1 a) = true ∧ numP (plc r 1 a) % 2 = 1 ∧ numP (plc r 0 a) < numP (plc r 1 a)) := by rw [← hok1]; exact fun h => by cases h.1
            refine TL.cons rfl (V1.t (V1.move' (by (conv => lhs; whnf) <;> rfl)) ?_)
            refine TL.cons rfl (V1.t (V1.extract rfl (by rfl)) ?_)
            refine TL.cons rfl (V1.t (V1.extract rfl (by rfl)) ?_)
            refine TL.cons rfl (T1.allocN 2 zr_55 rfl (fun b7 => ?_))
            refine TL.cons rfl (T1.storeN (vs := [.int .u64 (n1 : Nat), .slice sa1 vv1.length sc1]) rfl rfl sz_55 (ones rfl) (by repeat (first | exact Sub.one | apply Sub.there | apply Sub.far)) (by rfl) (by rfl) ?_)
            refine TL.cons rfl (V1.t (V1.assign' rfl) ?_)
            refine TL.nil ?_
            refine T.seq ?_
            refine T.live (l := [(0, _), (4, _), (5, _), (6, _), (7, _), (8, _), (14, _)]) (.cons (by (conv => lhs; whnf) <;> rfl) (.cons (by (conv => lhs; whnf) <;> rfl) (.cons (by (conv => lhs; whnf) <;> rfl) (.cons (by (conv => lhs; whnf) <;> rfl) (.cons (by (conv => lhs; whnf) <;> rfl) (.cons (by (conv => lhs; whnf) <;> rfl) (.cons (by (conv => lhs; whnf) <;> rfl) .nil))))))) (fun e_ => ?_)
            refine T.drawK (fun L_ => Find L_ ⟨b7, 0, [.int .u64 (n1 : Nat), .slice sa1 vv1.length sc1], 2⟩ ∧ Find L_ ⟨b13, 0, [.int .u64 (numP (plc r 0 a) : Nat), .slice sa0 (valP (plc r 0 a)).length sc0, .pointer (some ⟨bd, 0, none⟩)], 3⟩) mixed ⟨(by repeat (first | exact Find.here | assumption | apply Find.there | apply Find.far)), (by repeat (first | exact Find.here | assumption | apply Find.there | apply Find.far))⟩ ?_
            refine TK.take 0 rfl (by decide +kernel) (by decide +kernel) (by decide +kernel) rfl (fun _ _ _ h => h) (fun L_ ⟨k1_, k2_⟩ => V1.move' (by (conv => lhs; whnf) <;> rfl)) ?_
            refine TK.take 1 rfl (by decide +kernel) (by decide +kernel) (by decide +kernel) rfl (fun _ _ _ h => h) (fun L_ ⟨k1_, k2_⟩ => V1.move' (by (conv => lhs; whnf) <;> rfl)) ?_
            refine TD.takeNo (i := 2) rfl (by decide +kernel) (by decide +kernel) (by decide +kernel) rfl (fun _ _ _ h => h) ?_
            refine TD.takeNo (i := 3) rfl (by decide +kernel) (by decide +kernel) (by decide +kernel) rfl (fun _ _ _ h => h) ?_
            refine TD.takeNo (i := 4) rfl (by decide +kernel) (by decide +kernel) (by decide +kernel) rfl (fun _ _ _ h => h) ?_
            refine TD.takeNo (i := 5) rfl (by decide +kernel) (by decide +kernel) (by decide +kernel) rfl (fun _ _ _ h => h) ?_
            refine TD.takeNo (i := 6) rfl (by decide +kernel) (by decide +kernel) (by decide +kernel) rfl (fun _ _ _ h => h) ?_
            refine TD.takeNo (i := 7) rfl (by decide +kernel) (by decide +kernel) (by decide +kernel) rfl (fun _ _ _ h => h) ?_
            refine TK.take 8 rfl (by decide +kernel) (by decide +kernel) (by decide +kernel) rfl (fun _ _ _ h => h) (fun L_ ⟨k1_, k2_⟩ => V1.pick rfl (by (conv => lhs; whnf) <;> rfl)) ?_
            refine TK.take 9 rfl (by decide +kernel) (by decide +kernel) (by decide +kernel) rfl (fun _ _ _ h => h) (fun L_ ⟨k1_, k2_⟩ => V1.move' (by (conv => lhs; whnf) <;> rfl)) ?_
            refine TD.takeNo (i := 10) rfl (by decide +kernel) (by decide +kernel) (by decide +kernel) rfl (fun _ _ _ h => h) ?_
            refine TD.takeNo (i := 11) rfl (by decide +kernel) (by decide +kernel) (by decide +kernel) rfl (fun _ _ _ h => h) ?_
            refine TD.takeNo (i := 12) rfl (by decide +kernel) (by decide +kernel) (by decide +kernel) rfl (fun _ _ _ h => h) ?_
            refine TD.takeNo (i := 13) rfl (by decide +kernel) (by decide +kernel) (by decide +kernel) rfl (fun _ _ _ h => h) ?_
            refine TD.takeNo (i := 14) rfl (by decide +kernel) (by decide +kernel) (by decide +kernel) rfl (fun _ _ _ h => h) ?_
            refine TD.takeNo (i := 15) rfl (by decide +kernel) (by decide +kernel) (by decide +kernel) rfl (fun _ _ _ h => h) ?_
            refine TD.takeNo (i := 16) rfl (by decide +kernel) (by decide +kernel) (by decide +kernel) rfl (fun _ _ _ h => h) ?_
            refine TD.takeNo (i := 17) rfl (by decide +kernel) (by decide +kernel) (by decide +kernel) rfl (fun _ _ _ h => h) ?_
            refine TK.take 18 rfl (by decide +kernel) (by decide +kernel) (by decide +kernel) rfl (fun _ _ _ h => h) (fun L_ ⟨k1_, k2_⟩ => V1.pick rfl (by (conv => lhs; whnf) <;> rfl)) ?_
            refine TD.done (by decide +kernel) ?_
            refine T.cond_f rfl ?_
            refine T.skip ?_
            refine T.live (l := [(0, _), (4, _), (5, _), (14, _)]) (.cons (by (conv => lhs; whnf) <;> rfl) (.cons (by (conv => lhs; whnf) <;> rfl) (.cons (by (conv => lhs; whnf) <;> rfl) (.cons (by (conv => lhs; whnf) <;> rfl) .nil)))) (fun e_ => ?_)
            refine T.region ?_
            refine TL.cons rfl (V1.t (V1.add rfl rfl (wrap_i64 _ (by omega) (by omega))) ?_)
            refine TL.cons rfl (V1.t (V1.move' (by (conv => lhs; whnf) <;> rfl)) ?_)
            refine TL.nil ?_
            refine TR.step ?_
            refine T.seq ?_
            refine T.region ?_
            refine TL.cons rfl (V1.t (V1.ltI rfl rfl (decide_eq_false (by omega))) ?_)
            ·
              refine TL.nil ?_
              refine T.seq ?_
              refine T.cond_f rfl ?_
              refine T.exit ?_
              refine T.seq ?_
              refine T.seq ?_
              refine T.region ?_
              refine TL.cons rfl (V1.t (V1.move' (by (conv => lhs; whnf) <;> rfl)) ?_)
              refine TL.cons rfl (V1.t (V1.not rfl rfl) ?_)
              refine TL.cons rfl (V1.t (V1.move' (by (conv => lhs; whnf) <;> rfl)) ?_)
              refine TL.no rfl ?_
              refine TL.no rfl ?_
              refine TL.no rfl ?_
              refine TL.cons rfl (V1.t (V1.pick rfl (by (conv => lhs; whnf) <;> rfl)) ?_)
              refine TL.nil ?_
              refine T.cond_f rfl ?_
              refine T.skip ?_
              refine T.seq ?_
              refine T.region ?_
              refine TL.cons rfl (V1.t (V1.move' (by (conv => lhs; whnf) <;> rfl)) ?_)
              refine TL.cons rfl (V1.t (V1.assign' (by (conv => lhs; whnf) <;> rfl)) ?_)
              refine TL.cons rfl (V1.t (V1.assign' (by (conv => lhs; whnf) <;> rfl)) ?_)
              refine TL.nil ?_
              refine T.ret ?_
              exact ⟨_, ⟨b13, 0, [.int .u64 (numP (plc r 0 a) : Nat), .slice sa0 (valP (plc r 0 a)).length sc0, .pointer (some ⟨bd, 0, none⟩)], 3⟩ :: (Ls0 ++ ((⟨bd, 0, [.slice (some ⟨ba, 0, none⟩) a.length a.length, .int .i64 pw], 2⟩ : Blk) :: (⟨ba, 0, List.map byteV a, a.length⟩ : Blk) :: G)), _, .cons (.tmp (by (conv => lhs; whnf) <;> rfl)) (.cons (.tmp (by (conv => lhs; whnf) <;> rfl)) .nil), (by repeat (first | exact Take.nil | apply Take.one (by repeat (first | exact Pick.here | apply Pick.there | apply Pick.far)) | apply Take.seg (by repeat (first | exact PickS.last | exact PickS.one | exact PickS.here | exact PickS.nil | apply PickS.there | apply PickS.far)) | exact Take.last (by repeat (first | exact PickS.last | exact PickS.one | exact PickS.here | exact PickS.nil | apply PickS.there | apply PickS.far)))), (⟨b13, 0, [.int .u64 (numP (plc r 0 a) : Nat), .slice sa0 (valP (plc r 0 a)).length sc0, .pointer (some ⟨bd, 0, none⟩)], 3⟩ :: Ls0) ++ [(⟨bd, 0, [.slice (some ⟨ba, 0, none⟩) a.length a.length, .int .i64 pw], 2⟩ : Blk), (⟨ba, 0, List.map byteV a, a.length⟩ : Blk)], by simp, by rw [openP_x hok0.symm hp0 hy1]; exact ⟨b13, ⟨b13, 0, [.int .u64 (numP (plc r 0 a) : Nat), .slice sa0 (valP (plc r 0 a)).length sc0, .pointer (some ⟨bd, 0, none⟩)], 3⟩ :: Ls0, rfl, ⟨_, Ls0, rfl, hs0⟩, rfl⟩⟩
          ·
            obtain ⟨rfl, rfl⟩ := hv1 rfl
            refine TL.cons rfl (V1.t (V1.move' (by (conv => lhs; whnf) <;> rfl)) ?_)
            refine TL.cons rfl (V1.t (V1.extract rfl (by rfl)) ?_)
            refine TL.cons rfl (V1.t (V1.extract rfl (by rfl)) ?_)
            refine TL.cons rfl (T1.allocN 2 zr_55 rfl (fun b7 => ?_))
            refine TL.cons rfl (T1.storeN (vs := [.int .u64 (numP (plc r 1 a) : Nat), .slice sa1 (valP (plc r 1 a)).length sc1]) rfl rfl sz_55 (ones rfl) (by repeat (first | exact Sub.one | apply Sub.there | apply Sub.far)) (by rfl) (by rfl) ?_)
            refine TL.cons rfl (V1.t (V1.assign' rfl) ?_)
            refine TL.nil ?_
            refine T.seq ?_
            refine T.live (l := [(0, _), (4, _), (5, _), (6, _), (7, _), (8, _), (14, _)]) (.cons (by (conv => lhs; whnf) <;> rfl) (.cons (by (conv => lhs; whnf) <;> rfl) (.cons (by (conv => lhs; whnf) <;> rfl) (.cons (by (conv => lhs; whnf) <;> rfl) (.cons (by (conv => lhs; whnf) <;> rfl) (.cons (by (conv => lhs; whnf) <;> rfl) (.cons (by (conv => lhs; whnf) <;> rfl) .nil))))))) (fun e_ => ?_)
            refine T.drawK (fun L_ => Find L_ ⟨b7, 0, [.int .u64 (numP (plc r 1 a) : Nat), .slice sa1 (valP (plc r 1 a)).length sc1], 2⟩ ∧ Find L_ ⟨b13, 0, [.int .u64 (numP (plc r 0 a) : Nat), .slice sa0 (valP (plc r 0 a)).length sc0, .pointer (some ⟨bd, 0, none⟩)], 3⟩) mixed ⟨(by repeat (first | exact Find.here | assumption | apply Find.there | apply Find.far)), (by repeat (first | exact Find.here | assumption | apply Find.there | apply Find.far))⟩ ?_
            refine TK.take 0 rfl (by decide +kernel) (by decide +kernel) (by decide +kernel) rfl (fun _ _ _ h => h) (fun L_ ⟨k1_, k2_⟩ => V1.move' (by (conv => lhs; whnf) <;> rfl)) ?_
            refine TK.take 1 rfl (by decide +kernel) (by decide +kernel) (by decide +kernel) rfl (fun _ _ _ h => h) (fun L_ ⟨k1_, k2_⟩ => V1.move' (by (conv => lhs; whnf) <;> rfl)) ?_
            refine TK.take 2 rfl (by decide +kernel) (by decide +kernel) (by decide +kernel) rfl (fun _ _ _ h => h) (fun L_ ⟨k1_, k2_⟩ => V1.fieldAddr fl_55_0 rfl) ?_
            refine TK.take 3 rfl (by decide +kernel) (by decide +kernel) (by decide +kernel) rfl (fun _ _ _ h => h) (fun L_ ⟨k1_, k2_⟩ => V1.load1 one_32 rfl (.own (cells := [.int .u64 (numP (plc r 1 a) : Nat), .slice sa1 (valP (plc r 1 a)).length sc1]) (by repeat (first | exact Find.here | assumption | apply Find.there | apply Find.far)) (by rfl))) ?_
            refine TK.take 4 rfl (by decide +kernel) (by decide +kernel) (by decide +kernel) rfl (fun _ _ _ h => h) (fun L_ ⟨k1_, k2_⟩ => V1.rem (c := ((numP (plc r 1 a) % 2 : Nat) : Int)) rfl rfl (by decide) ((Int.ofNat_tmod _ 2).symm)) ?_
            refine TK.take 5 rfl (by decide +kernel) (by decide +kernel) (by decide +kernel) rfl (fun _ _ _ h => h) (fun L_ ⟨k1_, k2_⟩ => V1.move' (by (conv => lhs; whnf) <;> rfl)) ?_
            refine TK.take 6 rfl (by decide +kernel) (by decide +kernel) (by decide +kernel) rfl (fun _ _ _ h => h) (fun L_ ⟨k1_, k2_⟩ => V1.conv (c := 1) ty_3 ty_32 rfl (by decide)) ?_
            refine TK.take 7 rfl (by decide +kernel) (by decide +kernel) (by decide +kernel) rfl (fun _ _ _ h => h) (fun L_ ⟨k1_, k2_⟩ => V1.eqI (r := true) rfl rfl (decide_eq_true (by omega))) ?_
            refine TK.take 8 rfl (by decide +kernel) (by decide +kernel) (by decide +kernel) rfl (fun _ _ _ h => h) (fun L_ ⟨k1_, k2_⟩ => V1.pick rfl (by (conv => lhs; whnf) <;> rfl)) ?_
            refine TK.take 9 rfl (by decide +kernel) (by decide +kernel) (by decide +kernel) rfl (fun _ _ _ h => h) (fun L_ ⟨k1_, k2_⟩ => V1.move' (by (conv => lhs; whnf) <;> rfl)) ?_
            refine TK.take 10 rfl (by decide +kernel) (by decide +kernel) (by decide +kernel) rfl (fun _ _ _ h => h) (fun L_ ⟨k1_, k2_⟩ => V1.fieldAddr fl_55_0 rfl) ?_
            refine TK.take 11 rfl (by decide +kernel) (by decide +kernel) (by decide +kernel) rfl (fun _ _ _ h => h) (fun L_ ⟨k1_, k2_⟩ => V1.load1 one_32 rfl (.own (cells := [.int .u64 (numP (plc r 1 a) : Nat), .slice sa1 (valP (plc r 1 a)).length sc1]) (by repeat (first | exact Find.here | assumption | apply Find.there | apply Find.far)) (by rfl))) ?_
            refine TK.take 12 rfl (by decide +kernel) (by decide +kernel) (by decide +kernel) rfl (fun _ _ _ h => h) (fun L_ ⟨k1_, k2_⟩ => V1.move' (by (conv => lhs; whnf) <;> rfl)) ?_
            refine TK.take 13 rfl (by decide +kernel) (by decide +kernel) (by decide +kernel) rfl (fun _ _ _ h => h) (fun L_ ⟨k1_, k2_⟩ => V1.nilCheck rfl) ?_
            refine TK.take 14 rfl (by decide +kernel) (by decide +kernel) (by decide +kernel) rfl (fun _ _ _ h => h) (fun L_ ⟨k1_, k2_⟩ => V1.fieldAddr fl_57_0 rfl) ?_
            refine TK.take 15 rfl (by decide +kernel) (by decide +kernel) (by decide +kernel) rfl (fun _ _ _ h => h) (fun L_ ⟨k1_, k2_⟩ => V1.fieldAddr fl_55_0 rfl) ?_
            refine TK.take 16 rfl (by decide +kernel) (by decide +kernel) (by decide +kernel) rfl (fun _ _ _ h => h) (fun L_ ⟨k1_, k2_⟩ => V1.load1 one_32 rfl (.own (cells := [.int .u64 (numP (plc r 0 a) : Nat), .slice sa0 (valP (plc r 0 a)).length sc0, .pointer (some ⟨bd, 0, none⟩)]) (by repeat (first | exact Find.here | assumption | apply Find.there | apply Find.far)) (by rfl))) ?_
            refine TK.take 17 rfl (by decide +kernel) (by decide +kernel) (by decide +kernel) rfl (fun _ _ _ h => h) (fun L_ ⟨k1_, k2_⟩ => V1.gtI (r := true) rfl rfl (decide_eq_true (by omega))) ?_
            refine TK.take 18 rfl (by decide +kernel) (by decide +kernel) (by decide +kernel) rfl (fun _ _ _ h => h) (fun L_ ⟨k1_, k2_⟩ => V1.pick rfl (by (conv => lhs; whnf) <;> rfl)) ?_
            refine TD.done (by decide +kernel) ?_
            refine T.cond_t rfl ?_
            refine T.live (l := [(0, _), (4, _), (7, _), (14, _)]) (.cons (by (conv => lhs; whnf) <;> rfl) (.cons (by (conv => lhs; whnf) <;> rfl) (.cons (by (conv => lhs; whnf) <;> rfl) (.cons (by (conv => lhs; whnf) <;> rfl) .nil)))) (fun e_ => ?_)
            refine T.region ?_
            refine TL.cons rfl (V1.t (V1.move' (by (conv => lhs; whnf) <;> rfl)) ?_)
            refine TL.cons rfl (V1.t (V1.loadN (vs := [.int .u64 (numP (plc r 1 a) : Nat), .slice sa1 (valP (plc r 1 a)).length sc1]) one_55 sz_55 rfl (RdN.whole (by repeat (first | exact Find.here | assumption | apply Find.there | apply Find.far))) (by rfl)) ?_)
            refine TL.cons rfl (V1.t (V1.nilCheck rfl) ?_)
            refine TL.cons rfl (V1.t (V1.fieldAddr fl_57_0 rfl) ?_)
            refine TL.cons rfl (T1.storeM (o := 0) (cells := [.int .u64 (numP (plc r 0 a) : Nat), .slice sa0 (valP (plc r 0 a)).length sc0, .pointer (some ⟨bd, 0, none⟩)]) (vs := [.int .u64 (numP (plc r 1 a) : Nat), .slice sa1 (valP (plc r 1 a)).length sc1]) rfl rfl sz_55 (ones rfl) (by repeat (first | exact Sub.one | apply Sub.there | apply Sub.far)) (Nat.le_refl _) (by simp only [List.length_cons, List.length_nil]; omega) rfl ?_)
            rw [show putN [.int .u64 (numP (plc r 0 a) : Nat), .slice sa0 (valP (plc r 0 a)).length sc0, .pointer (some ⟨bd, 0, none⟩)] (0 - 0) [.int .u64 (numP (plc r 1 a) : Nat), .slice sa1 (valP (plc r 1 a)).length sc1] = [.int .u64 (numP (plc r 1 a) : Nat), .slice sa1 (valP (plc r 1 a)).length sc1, .pointer (some ⟨bd, 0, none⟩)] from rfl]
            ·
              refine TL.cons rfl (V1.t (V1.assign' (by (conv => lhs; whnf) <;> rfl)) ?_)
              refine TL.nil ?_
              refine T.region ?_
              refine TL.cons rfl (V1.t (V1.add rfl rfl (wrap_i64 _ (by omega) (by omega))) ?_)
              refine TL.cons rfl (V1.t (V1.move' (by (conv => lhs; whnf) <;> rfl)) ?_)
              refine TL.nil ?_
              refine TR.step ?_
              refine T.seq ?_
              refine T.region ?_
              refine TL.cons rfl (V1.t (V1.ltI rfl rfl (decide_eq_false (by omega))) ?_)
              ·
                refine TL.nil ?_
                refine T.seq ?_
                refine T.cond_f rfl ?_
                refine T.exit ?_
                refine T.seq ?_
                refine T.seq ?_
                refine T.region ?_
                refine TL.cons rfl (V1.t (V1.move' (by (conv => lhs; whnf) <;> rfl)) ?_)
                refine TL.cons rfl (V1.t (V1.not rfl rfl) ?_)
                refine TL.cons rfl (V1.t (V1.move' (by (conv => lhs; whnf) <;> rfl)) ?_)
                refine TL.no rfl ?_
                refine TL.no rfl ?_
                refine TL.no rfl ?_
                refine TL.cons rfl (V1.t (V1.pick rfl (by (conv => lhs; whnf) <;> rfl)) ?_)
                refine TL.nil ?_
                refine T.cond_f rfl ?_
                refine T.skip ?_
                refine T.seq ?_
                refine T.live (l := [(4, _)]) (.cons (by (conv => lhs; whnf) <;> rfl) .nil) (fun e_ => ?_)
                refine T.region ?_
                refine TL.cons rfl (V1.t (V1.move' (by (conv => lhs; whnf) <;> rfl)) ?_)
                refine TL.cons rfl (V1.t (V1.assign' (by (conv => lhs; whnf) <;> rfl)) ?_)
                refine TL.cons rfl (V1.t (V1.assign' (by (conv => lhs; whnf) <;> rfl)) ?_)
                refine TL.nil ?_
                refine T.ret ?_
                exact ⟨_, ⟨b13, 0, [.int .u64 (numP (plc r 1 a) : Nat), .slice sa1 (valP (plc r 1 a)).length sc1, .pointer (some ⟨bd, 0, none⟩)], 3⟩ :: (Ls1 ++ ((⟨bd, 0, [.slice (some ⟨ba, 0, none⟩) a.length a.length, .int .i64 pw], 2⟩ : Blk) :: (⟨ba, 0, List.map byteV a, a.length⟩ : Blk) :: G)), _, .cons (.tmp (by (conv => lhs; whnf) <;> rfl)) (.cons (.tmp (by (conv => lhs; whnf) <;> rfl)) .nil), (by repeat (first | exact Take.nil | apply Take.one (by repeat (first | exact Pick.here | apply Pick.there | apply Pick.far)) | apply Take.seg (by repeat (first | exact PickS.last | exact PickS.one | exact PickS.here | exact PickS.nil | apply PickS.there | apply PickS.far)) | exact Take.last (by repeat (first | exact PickS.last | exact PickS.one | exact PickS.here | exact PickS.nil | apply PickS.there | apply PickS.far)))), (⟨b13, 0, [.int .u64 (numP (plc r 1 a) : Nat), .slice sa1 (valP (plc r 1 a)).length sc1, .pointer (some ⟨bd, 0, none⟩)], 3⟩ :: Ls1) ++ [(⟨bd, 0, [.slice (some ⟨ba, 0, none⟩) a.length a.length, .int .i64 pw], 2⟩ : Blk), (⟨ba, 0, List.map byteV a, a.length⟩ : Blk)], by simp, by rw [openP_y hok1.symm hp1 (fun h => by omega)]; exact ⟨b13, ⟨b13, 0, [.int .u64 (numP (plc r 1 a) : Nat), .slice sa1 (valP (plc r 1 a)).length sc1, .pointer (some ⟨bd, 0, none⟩)], 3⟩ :: Ls1, rfl, ⟨_, Ls1, rfl, hs1⟩, rfl⟩⟩
          ·
            obtain ⟨rfl, rfl⟩ := hv1 rfl
            have hy1 : ¬ (okP (plc r 1 a) = true ∧ numP (plc r 1 a) % 2 = 1 ∧ numP (plc r 0 a) < numP (plc r 1 a)) := fun h => hp1 h.2.1
            refine TL.cons rfl (V1.t (V1.move' (by (conv => lhs; whnf) <;> rfl)) ?_)
            refine TL.cons rfl (V1.t (V1.extract rfl (by rfl)) ?_)
            refine TL.cons rfl (V1.t (V1.extract rfl (by rfl)) ?_)
            refine TL.cons rfl (T1.allocN 2 zr_55 rfl (fun b7 => ?_))
            refine TL.cons rfl (T1.storeN (vs := [.int .u64 (numP (plc r 1 a) : Nat), .slice sa1 (valP (plc r 1 a)).length sc1]) rfl rfl sz_55 (ones rfl) (by repeat (first | exact Sub.one | apply Sub.there | apply Sub.far)) (by rfl) (by rfl) ?_)
            refine TL.cons rfl (V1.t (V1.assign' rfl) ?_)
            refine TL.nil ?_
            refine T.seq ?_
            refine T.live (l := [(0, _), (4, _), (5, _), (6, _), (7, _), (8, _), (14, _)]) (.cons (by (conv => lhs; whnf) <;> rfl) (.cons (by (conv => lhs; whnf) <;> rfl) (.cons (by (conv => lhs; whnf) <;> rfl) (.cons (by (conv => lhs; whnf) <;> rfl) (.cons (by (conv => lhs; whnf) <;> rfl) (.cons (by (conv => lhs; whnf) <;> rfl) (.cons (by (conv => lhs; whnf) <;> rfl) .nil))))))) (fun e_ => ?_)
            refine T.drawK (fun L_ => Find L_ ⟨b7, 0, [.int .u64 (numP (plc r 1 a) : Nat), .slice sa1 (valP (plc r 1 a)).length sc1], 2⟩ ∧ Find L_ ⟨b13, 0, [.int .u64 (numP (plc r 0 a) : Nat), .slice sa0 (valP (plc r 0 a)).length sc0, .pointer (some ⟨bd, 0, none⟩)], 3⟩) mixed ⟨(by repeat (first | exact Find.here | assumption | apply Find.there | apply Find.far)), (by repeat (first | exact Find.here | assumption | apply Find.there | apply Find.far))⟩ ?_
            refine TK.take 0 rfl (by decide +kernel) (by decide +kernel) (by decide +kernel) rfl (fun _ _ _ h => h) (fun L_ ⟨k1_, k2_⟩ => V1.move' (by (conv => lhs; whnf) <;> rfl)) ?_
            refine TK.take 1 rfl (by decide +kernel) (by decide +kernel) (by decide +kernel) rfl (fun _ _ _ h => h) (fun L_ ⟨k1_, k2_⟩ => V1.move' (by (conv => lhs; whnf) <;> rfl)) ?_
            refine TK.take 2 rfl (by decide +kernel) (by decide +kernel) (by decide +kernel) rfl (fun _ _ _ h => h) (fun L_ ⟨k1_, k2_⟩ => V1.fieldAddr fl_55_0 rfl) ?_
            refine TK.take 3 rfl (by decide +kernel) (by decide +kernel) (by decide +kernel) rfl (fun _ _ _ h => h) (fun L_ ⟨k1_, k2_⟩ => V1.load1 one_32 rfl (.own (cells := [.int .u64 (numP (plc r 1 a) : Nat), .slice sa1 (valP (plc r 1 a)).length sc1]) (by repeat (first | exact Find.here | assumption | apply Find.there | apply Find.far)) (by rfl))) ?_
            refine TK.take 4 rfl (by decide +kernel) (by decide +kernel) (by decide +kernel) rfl (fun _ _ _ h => h) (fun L_ ⟨k1_, k2_⟩ => V1.rem (c := ((numP (plc r 1 a) % 2 : Nat) : Int)) rfl rfl (by decide) ((Int.ofNat_tmod _ 2).symm)) ?_
            refine TK.take 5 rfl (by decide +kernel) (by decide +kernel) (by decide +kernel) rfl (fun _ _ _ h => h) (fun L_ ⟨k1_, k2_⟩ => V1.move' (by (conv => lhs; whnf) <;> rfl)) ?_
            refine TK.take 6 rfl (by decide +kernel) (by decide +kernel) (by decide +kernel) rfl (fun _ _ _ h => h) (fun L_ ⟨k1_, k2_⟩ => V1.conv (c := 1) ty_3 ty_32 rfl (by decide)) ?_
            refine TK.take 7 rfl (by decide +kernel) (by decide +kernel) (by decide +kernel) rfl (fun _ _ _ h => h) (fun L_ ⟨k1_, k2_⟩ => V1.eqI (r := false) rfl rfl (decide_eq_false (by omega))) ?_
            refine TK.take 8 rfl (by decide +kernel) (by decide +kernel) (by decide +kernel) rfl (fun _ _ _ h => h) (fun L_ ⟨k1_, k2_⟩ => V1.pick rfl (by (conv => lhs; whnf) <;> rfl)) ?_
            refine TK.take 9 rfl (by decide +kernel) (by decide +kernel) (by decide +kernel) rfl (fun _ _ _ h => h) (fun L_ ⟨k1_, k2_⟩ => V1.move' (by (conv => lhs; whnf) <;> rfl)) ?_
            refine TD.takeNo (i := 10) rfl (by decide +kernel) (by decide +kernel) (by decide +kernel) rfl (fun _ _ _ h => h) ?_
            refine TD.takeNo (i := 11) rfl (by decide +kernel) (by decide +kernel) (by decide +kernel) rfl (fun _ _ _ h => h) ?_
            refine TD.takeNo (i := 12) rfl (by decide +kernel) (by decide +kernel) (by decide +kernel) rfl (fun _ _ _ h => h) ?_
            refine TD.takeNo (i := 13) rfl (by decide +kernel) (by decide +kernel) (by decide +kernel) rfl (fun _ _ _ h => h) ?_
            refine TD.takeNo (i := 14) rfl (by decide +kernel) (by decide +kernel) (by decide +kernel) rfl (fun _ _ _ h => h) ?_
            refine TD.takeNo (i := 15) rfl (by decide +kernel) (by decide +kernel) (by decide +kernel) rfl (fun _ _ _ h => h) ?_
            refine TD.takeNo (i := 16) rfl (by decide +kernel) (by decide +kernel) (by decide +kernel) rfl (fun _ _ _ h => h) ?_
            refine TD.takeNo (i := 17) rfl (by decide +kernel) (by decide +kernel) (by decide +kernel) rfl (fun _ _ _ h => h) ?_
            refine TK.take 18 rfl (by decide +kernel) (by decide +kernel) (by decide +kernel) rfl (fun _ _ _ h => h) (fun L_ ⟨k1_, k2_⟩ => V1.pick rfl (by (conv => lhs; whnf) <;> rfl)) ?_
            refine TD.done (by decide +kernel) ?_
            refine T.cond_f rfl ?_
            refine T.skip ?_
            refine T.live (l := [(0, _), (4, _), (5, _), (14, _)]) (.cons (by (conv => lhs; whnf) <;> rfl) (.cons (by (conv => lhs; whnf) <;> rfl) (.cons (by (conv => lhs; whnf) <;> rfl) (.cons (by (conv => lhs; whnf) <;> rfl) .nil)))) (fun e_ => ?_)
            refine T.region ?_
            refine TL.cons rfl (V1.t (V1.add rfl rfl (wrap_i64 _ (by omega) (by omega))) ?_)
            refine TL.cons rfl (V1.t (V1.move' (by (conv => lhs; whnf) <;> rfl)) ?_)
            refine TL.nil ?_
            refine TR.step ?_
            refine T.seq ?_
            refine T.region ?_
            refine TL.cons rfl (V1.t (V1.ltI rfl rfl (decide_eq_false (by omega))) ?_)
            ·
              refine TL.nil ?_
              refine T.seq ?_
              refine T.cond_f rfl ?_
              refine T.exit ?_
              refine T.seq ?_
              refine T.seq ?_
              refine T.region ?_
              refine TL.cons rfl (V1.t (V1.move' (by (conv => lhs; whnf) <;> rfl)) ?_)
              refine TL.cons rfl (V1.t (V1.not rfl rfl) ?_)
              refine TL.cons rfl (V1.t (V1.move' (by (conv => lhs; whnf) <;> rfl)) ?_)
              refine TL.no rfl ?_
              refine TL.no rfl ?_
              refine TL.no rfl ?_
              refine TL.cons rfl (V1.t (V1.pick rfl (by (conv => lhs; whnf) <;> rfl)) ?_)
              refine TL.nil ?_
              refine T.cond_f rfl ?_
              refine T.skip ?_
              refine T.seq ?_
              refine T.region ?_
              refine TL.cons rfl (V1.t (V1.move' (by (conv => lhs; whnf) <;> rfl)) ?_)
              refine TL.cons rfl (V1.t (V1.assign' (by (conv => lhs; whnf) <;> rfl)) ?_)
              refine TL.cons rfl (V1.t (V1.assign' (by (conv => lhs; whnf) <;> rfl)) ?_)
              refine TL.nil ?_
              refine T.ret ?_
              exact ⟨_, ⟨b13, 0, [.int .u64 (numP (plc r 0 a) : Nat), .slice sa0 (valP (plc r 0 a)).length sc0, .pointer (some ⟨bd, 0, none⟩)], 3⟩ :: (Ls0 ++ ((⟨bd, 0, [.slice (some ⟨ba, 0, none⟩) a.length a.length, .int .i64 pw], 2⟩ : Blk) :: (⟨ba, 0, List.map byteV a, a.length⟩ : Blk) :: G)), _, .cons (.tmp (by (conv => lhs; whnf) <;> rfl)) (.cons (.tmp (by (conv => lhs; whnf) <;> rfl)) .nil), (by repeat (first | exact Take.nil | apply Take.one (by repeat (first | exact Pick.here | apply Pick.there | apply Pick.far)) | apply Take.seg (by repeat (first | exact PickS.last | exact PickS.one | exact PickS.here | exact PickS.nil | apply PickS.there | apply PickS.far)) | exact Take.last (by repeat (first | exact PickS.last | exact PickS.one | exact PickS.here | exact PickS.nil | apply PickS.there | apply PickS.far)))), (⟨b13, 0, [.int .u64 (numP (plc r 0 a) : Nat), .slice sa0 (valP (plc r 0 a)).length sc0, .pointer (some ⟨bd, 0, none⟩)], 3⟩ :: Ls0) ++ [(⟨bd, 0, [.slice (some ⟨ba, 0, none⟩) a.length a.length, .int .i64 pw], 2⟩ : Blk), (⟨ba, 0, List.map byteV a, a.length⟩ : Blk)], by simp, by rw [openP_x hok0.symm hp0 hy1]; exact ⟨b13, ⟨b13, 0, [.int .u64 (numP (plc r 0 a) : Nat), .slice sa0 (valP (plc r 0 a)).length sc0, .pointer (some ⟨bd, 0, none⟩)], 3⟩ :: Ls0, rfl, ⟨_, Ls0, rfl, hs0⟩, rfl⟩⟩
          ·
            obtain ⟨rfl, rfl⟩ := hv1 rfl
            have hy1 : ¬ (okP (plc r 1 a) = true ∧ numP (plc r 1 a) % 2 = 1 ∧ numP (plc r 0 a) < numP (plc r 1 a)) := fun h => hg1 h.2.2
            refine TL.cons rfl (V1.t (V1.move' (by (conv => lhs; whnf) <;> rfl)) ?_)
            refine TL.cons rfl (V1.t (V1.extract rfl (by rfl)) ?_)
            refine TL.cons rfl (V1.t (V1.extract rfl (by rfl)) ?_)
            refine TL.cons rfl (T1.allocN 2 zr_55 rfl (fun b7 => ?_))
            refine TL.cons rfl (T1.storeN (vs := [.int .u64 (numP (plc r 1 a) : Nat), .slice sa1 (valP (plc r 1 a)).length sc1]) rfl rfl sz_55 (ones rfl) (by repeat (first | exact Sub.one | apply Sub.there | apply Sub.far)) (by rfl) (by rfl) ?_)
            refine TL.cons rfl (V1.t (V1.assign' rfl) ?_)
            refine TL.nil ?_
            refine T.seq ?_
            refine T.live (l := [(0, _), (4, _), (5, _), (6, _), (7, _), (8, _), (14, _)]) (.cons (by (conv => lhs; whnf) <;> rfl) (.cons (by (conv => lhs; whnf) <;> rfl) (.cons (by (conv => lhs; whnf) <;> rfl) (.cons (by (conv => lhs; whnf) <;> rfl) (.cons (by (conv => lhs; whnf) <;> rfl) (.cons (by (conv => lhs; whnf) <;> rfl) (.cons (by (conv => lhs; whnf) <;> rfl) .nil))))))) (fun e_ => ?_)
            refine T.drawK (fun L_ => Find L_ ⟨b7, 0, [.int .u64 (numP (plc r 1 a) : Nat), .slice sa1 (valP (plc r 1 a)).length sc1], 2⟩ ∧ Find L_ ⟨b13, 0, [.int .u64 (numP (plc r 0 a) : Nat), .slice sa0 (valP (plc r 0 a)).length sc0, .pointer (some ⟨bd, 0, none⟩)], 3⟩) mixed ⟨(by repeat (first | exact Find.here | assumption | apply Find.there | apply Find.far)), (by repeat (first | exact Find.here | assumption | apply Find.there | apply Find.far))⟩ ?_
            refine TK.take 0 rfl (by decide +kernel) (by decide +kernel) (by decide +kernel) rfl (fun _ _ _ h => h) (fun L_ ⟨k1_, k2_⟩ => V1.move' (by (conv => lhs; whnf) <;> rfl)) ?_
            refine TK.take 1 rfl (by decide +kernel) (by decide +kernel) (by decide +kernel) rfl (fun _ _ _ h => h) (fun L_ ⟨k1_, k2_⟩ => V1.move' (by (conv => lhs; whnf) <;> rfl)) ?_
            refine TK.take 2 rfl (by decide +kernel) (by decide +kernel) (by decide +kernel) rfl (fun _ _ _ h => h) (fun L_ ⟨k1_, k2_⟩ => V1.fieldAddr fl_55_0 rfl) ?_
            refine TK.take 3 rfl (by decide +kernel) (by decide +kernel) (by decide +kernel) rfl (fun _ _ _ h => h) (fun L_ ⟨k1_, k2_⟩ => V1.load1 one_32 rfl (.own (cells := [.int .u64 (numP (plc r 1 a) : Nat), .slice sa1 (valP (plc r 1 a)).length sc1]) (by repeat (first | exact Find.here | assumption | apply Find.there | apply Find.far)) (by rfl))) ?_
            refine TK.take 4 rfl (by decide +kernel) (by decide +kernel) (by decide +kernel) rfl (fun _ _ _ h => h) (fun L_ ⟨k1_, k2_⟩ => V1.rem (c := ((numP (plc r 1 a) % 2 : Nat) : Int)) rfl rfl (by decide) ((Int.ofNat_tmod _ 2).symm)) ?_
            refine TK.take 5 rfl (by decide +kernel) (by decide +kernel) (by decide +kernel) rfl (fun _ _ _ h => h) (fun L_ ⟨k1_, k2_⟩ => V1.move' (by (conv => lhs; whnf) <;> rfl)) ?_
            refine TK.take 6 rfl (by decide +kernel) (by decide +kernel) (by decide +kernel) rfl (fun _ _ _ h => h) (fun L_ ⟨k1_, k2_⟩ => V1.conv (c := 1) ty_3 ty_32 rfl (by decide)) ?_
            refine TK.take 7 rfl (by decide +kernel) (by decide +kernel) (by decide +kernel) rfl (fun _ _ _ h => h) (fun L_ ⟨k1_, k2_⟩ => V1.eqI (r := true) rfl rfl (decide_eq_true (by omega))) ?_
            refine TK.take 8 rfl (by decide +kernel) (by decide +kernel) (by decide +kernel) rfl (fun _ _ _ h => h) (fun L_ ⟨k1_, k2_⟩ => V1.pick rfl (by (conv => lhs; whnf) <;> rfl)) ?_
            refine TK.take 9 rfl (by decide +kernel) (by decide +kernel) (by decide +kernel) rfl (fun _ _ _ h => h) (fun L_ ⟨k1_, k2_⟩ => V1.move' (by (conv => lhs; whnf) <;> rfl)) ?_
            refine TK.take 10 rfl (by decide +kernel) (by decide +kernel) (by decide +kernel) rfl (fun _ _ _ h => h) (fun L_ ⟨k1_, k2_⟩ => V1.fieldAddr fl_55_0 rfl) ?_
            refine TK.take 11 rfl (by decide +kernel) (by decide +kernel) (by decide +kernel) rfl (fun _ _ _ h => h) (fun L_ ⟨k1_, k2_⟩ => V1.load1 one_32 rfl (.own (cells := [.int .u64 (numP (plc r 1 a) : Nat), .slice sa1 (valP (plc r 1 a)).length sc1]) (by repeat (first | exact Find.here | assumption | apply Find.there | apply Find.far)) (by rfl))) ?_
            refine TK.take 12 rfl (by decide +kernel) (by decide +kernel) (by decide +kernel) rfl (fun _ _ _ h => h) (fun L_ ⟨k1_, k2_⟩ => V1.move' (by (conv => lhs; whnf) <;> rfl)) ?_
            refine TK.take 13 rfl (by decide +kernel) (by decide +kernel) (by decide +kernel) rfl (fun _ _ _ h => h) (fun L_ ⟨k1_, k2_⟩ => V1.nilCheck rfl) ?_
            refine TK.take 14 rfl (by decide +kernel) (by decide +kernel) (by decide +kernel) rfl (fun _ _ _ h => h) (fun L_ ⟨k1_, k2_⟩ => V1.fieldAddr fl_57_0 rfl) ?_
            refine TK.take 15 rfl (by decide +kernel) (by decide +kernel) (by decide +kernel) rfl (fun _ _ _ h => h) (fun L_ ⟨k1_, k2_⟩ => V1.fieldAddr fl_55_0 rfl) ?_
            refine TK.take 16 rfl (by decide +kernel) (by decide +kernel) (by decide +kernel) rfl (fun _ _ _ h => h) (fun L_ ⟨k1_, k2_⟩ => V1.load1 one_32 rfl (.own (cells := [.int .u64 (numP (plc r 0 a) : Nat), .slice sa0 (valP (plc r 0 a)).length sc0, .pointer (some ⟨bd, 0, none⟩)]) (by repeat (first | exact Find.here | assumption | apply Find.there | apply Find.far)) (by rfl))) ?_
            refine TK.take 17 rfl (by decide +kernel) (by decide +kernel) (by decide +kernel) rfl (fun _ _ _ h => h) (fun L_ ⟨k1_, k2_⟩ => V1.gtI (r := false) rfl rfl (decide_eq_false (by omega))) ?_
            refine TK.take 18 rfl (by decide +kernel) (by decide +kernel) (by decide +kernel) rfl (fun _ _ _ h => h) (fun L_ ⟨k1_, k2_⟩ => V1.pick rfl (by (conv => lhs; whnf) <;> rfl)) ?_
            refine TD.done (by decide +kernel) ?_
            refine T.cond_f rfl ?_
            refine T.skip ?_
            refine T.live (l := [(0, _), (4, _), (5, _), (14, _)]) (.cons (by (conv => lhs; whnf) <;> rfl) (.cons (by (conv => lhs; whnf) <;> rfl) (.cons (by (conv => lhs; whnf) <;> rfl) (.cons (by (conv => lhs; whnf) <;> rfl) .nil)))) (fun e_ => ?_)
            refine T.region ?_
            refine TL.cons rfl (V1.t (V1.add rfl rfl (wrap_i64 _ (by omega) (by omega))) ?_)
            refine TL.cons rfl (V1.t (V1.move' (by (conv => lhs; whnf) <;> rfl)) ?_)
            refine TL.nil ?_
            refine TR.step ?_
            refine T.seq ?_
            refine T.region ?_
            refine TL.cons rfl (V1.t (V1.ltI rfl rfl (decide_eq_false (by omega))) ?_)
            ·
              refine TL.nil ?_
              refine T.seq ?_
              refine T.cond_f rfl ?_
              refine T.exit ?_
              refine T.seq ?_
              refine T.seq ?_
              refine T.region ?_
              refine TL.cons rfl (V1.t (V1.move' (by (conv => lhs; whnf) <;> rfl)) ?_)
              refine TL.cons rfl (V1.t (V1.not rfl rfl) ?_)
              refine TL.cons rfl (V1.t (V1.move' (by (conv => lhs; whnf) <;> rfl)) ?_)
              refine TL.no rfl ?_
              refine TL.no rfl ?_
              refine TL.no rfl ?_
              refine TL.cons rfl (V1.t (V1.pick rfl (by (conv => lhs; whnf) <;> rfl)) ?_)
              refine TL.nil ?_
              refine T.cond_f rfl ?_
              refine T.skip ?_
              refine T.seq ?_
              refine T.region ?_
              refine TL.cons rfl (V1.t (V1.move' (by (conv => lhs; whnf) <;> rfl)) ?_)
              refine TL.cons rfl (V1.t (V1.assign' (by (conv => lhs; whnf) <;> rfl)) ?_)
              refine TL.cons rfl (V1.t (V1.assign' (by (conv => lhs; whnf) <;> rfl)) ?_)
              refine TL.nil ?_
              refine T.ret ?_
              exact ⟨_, ⟨b13, 0, [.int .u64 (numP (plc r 0 a) : Nat), .slice sa0 (valP (plc r 0 a)).length sc0, .pointer (some ⟨bd, 0, none⟩)], 3⟩ :: (Ls0 ++ ((⟨bd, 0, [.slice (some ⟨ba, 0, none⟩) a.length a.length, .int .i64 pw], 2⟩ : Blk) :: (⟨ba, 0, List.map byteV a, a.length⟩ : Blk) :: G)), _, .cons (.tmp (by (conv => lhs; whnf) <;> rfl)) (.cons (.tmp (by (conv => lhs; whnf) <;> rfl)) .nil), (by repeat (first | exact Take.nil | apply Take.one (by repeat (first | exact Pick.here | apply Pick.there | apply Pick.far)) | apply Take.seg (by repeat (first | exact PickS.last | exact PickS.one | exact PickS.here | exact PickS.nil | apply PickS.there | apply PickS.far)) | exact Take.last (by repeat (first | exact PickS.last | exact PickS.one | exact PickS.here | exact PickS.nil | apply PickS.there | apply PickS.far)))), (⟨b13, 0, [.int .u64 (numP (plc r 0 a) : Nat), .slice sa0 (valP (plc r 0 a)).length sc0, .pointer (some ⟨bd, 0, none⟩)], 3⟩ :: Ls0) ++ [(⟨bd, 0, [.slice (some ⟨ba, 0, none⟩) a.length a.length, .int .i64 pw], 2⟩ : Blk), (⟨ba, 0, List.map byteV a, a.length⟩ : Blk)], by simp, by rw [openP_x hok0.symm hp0 hy1]; exact ⟨b13, ⟨b13, 0, [.int .u64 (numP (plc r 0 a) : Nat), .slice sa0 (valP (plc r 0 a)).length sc0, .pointer (some ⟨bd, 0, none⟩)], 3⟩ :: Ls0, rfl, ⟨_, Ls0, rfl, hs0⟩, rfl⟩⟩
    ·
      obtain ⟨rfl, rfl⟩ := hv0 rfl
      have hx0 : ¬ (okP (plc r 0 a) = true ∧ numP (plc r 0 a) % 2 = 0) := fun h => hp0 h.2
      refine TL.cons rfl (V1.t (V1.move' (by (conv => lhs; whnf) <;> rfl)) ?_)
      refine TL.cons rfl (V1.t (V1.extract rfl (by rfl)) ?_)
      refine TL.cons rfl (V1.t (V1.extract rfl (by rfl)) ?_)
      refine TL.cons rfl (T1.allocN 2 zr_55 rfl (fun b7 => ?_))
      refine TL.cons rfl (T1.storeN (vs := [.int .u64 (numP (plc r 0 a) : Nat), .slice sa0 (valP (plc r 0 a)).length sc0]) rfl rfl sz_55 (ones rfl) (by repeat (first | exact Sub.one | apply Sub.there | apply Sub.far)) (by rfl) (by rfl) ?_)
      refine TL.cons rfl (V1.t (V1.assign' rfl) ?_)
      refine TL.nil ?_
      refine T.seq ?_
      refine T.live (l := [(0, _), (4, _), (5, _), (6, _), (7, _), (8, _), (14, _)]) (.cons (by (conv => lhs; whnf) <;> rfl) (.cons (by (conv => lhs; whnf) <;> rfl) (.cons (by (conv => lhs; whnf) <;> rfl) (.cons (by (conv => lhs; whnf) <;> rfl) (.cons (by (conv => lhs; whnf) <;> rfl) (.cons (by (conv => lhs; whnf) <;> rfl) (.cons (by (conv => lhs; whnf) <;> rfl) .nil))))))) (fun e_ => ?_)
      refine T.drawK (fun L_ => Find L_ ⟨b7, 0, [.int .u64 (numP (plc r 0 a) : Nat), .slice sa0 (valP (plc r 0 a)).length sc0], 2⟩ ∧ Find L_ ⟨b13, 0, [.int .u64 0, .slice none 0 0, .pointer (some ⟨bd, 0, none⟩)], 3⟩) mixed ⟨(by repeat (first | exact Find.here | assumption | apply Find.there | apply Find.far)), (by repeat (first | exact Find.here | assumption | apply Find.there | apply Find.far))⟩ ?_
      refine TK.take 0 rfl (by decide +kernel) (by decide +kernel) (by decide +kernel) rfl (fun _ _ _ h => h) (fun L_ ⟨k1_, k2_⟩ => V1.move' (by (conv => lhs; whnf) <;> rfl)) ?_
      refine TK.take 1 rfl (by decide +kernel) (by decide +kernel) (by decide +kernel) rfl (fun _ _ _ h => h) (fun L_ ⟨k1_, k2_⟩ => V1.move' (by (conv => lhs; whnf) <;> rfl)) ?_
      refine TK.take 2 rfl (by decide +kernel) (by decide +kernel) (by decide +kernel) rfl (fun _ _ _ h => h) (fun L_ ⟨k1_, k2_⟩ => V1.fieldAddr fl_55_0 rfl) ?_
      refine TK.take 3 rfl (by decide +kernel) (by decide +kernel) (by decide +kernel) rfl (fun _ _ _ h => h) (fun L_ ⟨k1_, k2_⟩ => V1.load1 one_32 rfl (.own (cells := [.int .u64 (numP (plc r 0 a) : Nat), .slice sa0 (valP (plc r 0 a)).length sc0]) (by repeat (first | exact Find.here | assumption | apply Find.there | apply Find.far)) (by rfl))) ?_
      refine TK.take 4 rfl (by decide +kernel) (by decide +kernel) (by decide +kernel) rfl (fun _ _ _ h => h) (fun L_ ⟨k1_, k2_⟩ => V1.rem (c := ((numP (plc r 0 a) % 2 : Nat) : Int)) rfl rfl (by decide) ((Int.ofNat_tmod _ 2).symm)) ?_
      refine TK.take 5 rfl (by decide +kernel) (by decide +kernel) (by decide +kernel) rfl (fun _ _ _ h => h) (fun L_ ⟨k1_, k2_⟩ => V1.move' (by (conv => lhs; whnf) <;> rfl)) ?_
      refine TK.take 6 rfl (by decide +kernel) (by decide +kernel) (by decide +kernel) rfl (fun _ _ _ h => h) (fun L_ ⟨k1_, k2_⟩ => V1.conv (c := 0) ty_3 ty_32 rfl (by decide)) ?_
      refine TK.take 7 rfl (by decide +kernel) (by decide +kernel) (by decide +kernel) rfl (fun _ _ _ h => h) (fun L_ ⟨k1_, k2_⟩ => V1.eqI (r := false) rfl rfl (decide_eq_false (by omega))) ?_
      refine TK.take 8 rfl (by decide +kernel) (by decide +kernel) (by decide +kernel) rfl (fun _ _ _ h => h) (fun L_ ⟨k1_, k2_⟩ => V1.pick rfl (by (conv => lhs; whnf) <;> rfl)) ?_
      refine TK.take 9 rfl (by decide +kernel) (by decide +kernel) (by decide +kernel) rfl (fun _ _ _ h => h) (fun L_ ⟨k1_, k2_⟩ => V1.move' (by (conv => lhs; whnf) <;> rfl)) ?_
      refine TD.takeNo (i := 10) rfl (by decide +kernel) (by decide +kernel) (by decide +kernel) rfl (fun _ _ _ h => h) ?_
      refine TD.takeNo (i := 11) rfl (by decide +kernel) (by decide +kernel) (by decide +kernel) rfl (fun _ _ _ h => h) ?_
      refine TD.takeNo (i := 12) rfl (by decide +kernel) (by decide +kernel) (by decide +kernel) rfl (fun _ _ _ h => h) ?_
      refine TD.takeNo (i := 13) rfl (by decide +kernel) (by decide +kernel) (by decide +kernel) rfl (fun _ _ _ h => h) ?_
      refine TD.takeNo (i := 14) rfl (by decide +kernel) (by decide +kernel) (by decide +kernel) rfl (fun _ _ _ h => h) ?_
      refine TD.takeNo (i := 15) rfl (by decide +kernel) (by decide +kernel) (by decide +kernel) rfl (fun _ _ _ h => h) ?_
      refine TD.takeNo (i := 16) rfl (by decide +kernel) (by decide +kernel) (by decide +kernel) rfl (fun _ _ _ h => h) ?_
      refine TD.takeNo (i := 17) rfl (by decide +kernel) (by decide +kernel) (by decide +kernel) rfl (fun _ _ _ h => h) ?_
      refine TK.take 18 rfl (by decide +kernel) (by decide +kernel) (by decide +kernel) rfl (fun _ _ _ h => h) (fun L_ ⟨k1_, k2_⟩ => V1.pick rfl (by (conv => lhs; whnf) <;> rfl)) ?_
      refine TD.done (by decide +kernel) ?_
      refine T.cond_f rfl ?_
      refine T.skip ?_
      refine T.live (l := [(0, _), (4, _), (5, _), (14, _)]) (.cons (by (conv => lhs; whnf) <;> rfl) (.cons (by (conv => lhs; whnf) <;> rfl) (.cons (by (conv => lhs; whnf) <;> rfl) (.cons (by (conv => lhs; whnf) <;> rfl) .nil)))) (fun e_ => ?_)
      refine T.region ?_
      refine TL.cons rfl (V1.t (V1.add rfl rfl (wrap_i64 _ (by omega) (by omega))) ?_)
      refine TL.cons rfl (V1.t (V1.move' (by (conv => lhs; whnf) <;> rfl)) ?_)
      refine TL.nil ?_
      refine TR.step ?_
      refine T.seq ?_
      refine T.region ?_
      refine TL.cons rfl (V1.t (V1.ltI rfl rfl (decide_eq_true (by omega))) ?_)
      ·
        refine TL.nil ?_
        refine T.seq ?_
        refine T.cond_t rfl ?_
        refine T.skip ?_
        refine T.seq ?_
        refine T.block ?_
        refine T.seq ?_
        refine T.region ?_
        refine TL.cons rfl (V1.t (V1.move' (by (conv => lhs; whnf) <;> rfl)) ?_)
        refine TL.cons rfl (V1.t (V1.assign' (by (conv => lhs; whnf) <;> rfl)) ?_)
        refine TL.nil ?_
        refine T.seq ?_
        refine T.region ?_
        refine TL.cons rfl (V1.t (V1.move' (by (conv => lhs; whnf) <;> rfl)) ?_)
        refine TL.cons rfl (V1.t (V1.move' (by (conv => lhs; whnf) <;> rfl)) ?_)
        refine TL.cons rfl (T1.callX (X := [(⟨bd, 0, [.slice (some ⟨ba, 0, none⟩) a.length a.length, .int .i64 pw], 2⟩ : Blk), (⟨ba, 0, List.map byteV a, a.length⟩ : Blk)]) has_18 rfl (look_any _ bd ba r 1 a pw ha hr1 hr2 (by decide)) (by repeat (first | exact Take.nil | apply Take.one (by repeat (first | exact Pick.here | apply Pick.there | apply Pick.far)) | apply Take.seg (by repeat (first | exact PickS.last | exact PickS.one | exact PickS.here | exact PickS.nil | apply PickS.there | apply PickS.far)) | exact Take.last (by repeat (first | exact PickS.last | exact PickS.one | exact PickS.here | exact PickS.nil | apply PickS.there | apply PickS.far)))) (fun v1 Y1 hY1 => ?_))
        obtain ⟨n1, s1, vv1, Ls1, ok1, rfl, rfl, hs1, hok1, hv1⟩ := hY1
        obtain ⟨sa1, sc1, rfl⟩ := (PartR.own (w0 := w0) (Ps := Ls1) hs1 (fun _ h => h)).form
        simp only [List.append_assoc, List.cons_append, List.nil_append]
        rcases (show ok1 = false ∨ (ok1 = true ∧ n1 % 2 = 1) ∨ (ok1 = true ∧ n1 % 2 ≠ 1) by cases ok1 with | false => exact .inl rfl | true => rcases Decidable.em (n1 % 2 = 1) with h | h; exact .inr (.inl ⟨rfl, h⟩); exact .inr (.inr ⟨rfl, h⟩)) with rfl | ⟨rfl, hp1⟩ | ⟨rfl, hp1⟩
        ·
          have hy1 : ¬ (okP (plc r 1 a) = true ∧ numP (plc r 1 a) % 2 = 1) := by rw [← hok1]; exact fun h => by cases h.1
          refine TL.cons rfl (V1.t (V1.move' (by (conv => lhs; whnf) <;> rfl)) ?_)
          refine TL.cons rfl (V1.t (V1.extract rfl (by rfl)) ?_)
          refine TL.cons rfl (V1.t (V1.extract rfl (by rfl)) ?_)
          refine TL.cons rfl (T1.allocN 2 zr_55 rfl (fun b7 => ?_))
          refine TL.cons rfl (T1.storeN (vs := [.int .u64 (n1 : Nat), .slice sa1 vv1.length sc1]) rfl rfl sz_55 (ones rfl) (by repeat (first | exact Sub.one | apply Sub.there | apply Sub.far)) (by rfl) (by rfl) ?_)
          refine TL.cons rfl (V1.t (V1.assign' rfl) ?_)
          refine TL.nil ?_
          refine T.seq ?_
          refine T.drawK (fun L_ => Find L_ ⟨b7, 0, [.int .u64 (n1 : Nat), .slice sa1 vv1.length sc1], 2⟩ ∧ Find L_ ⟨b13, 0, [.int .u64 0, .slice none 0 0, .pointer (some ⟨bd, 0, none⟩)], 3⟩) mixed ⟨(by repeat (first | exact Find.here | assumption | apply Find.there | apply Find.far)), (by repeat (first | exact Find.here | assumption | apply Find.there | apply Find.far))⟩ ?_
          refine TK.take 0 rfl (by decide +kernel) (by decide +kernel) (by decide +kernel) rfl (fun _ _ _ h => h) (fun L_ ⟨k1_, k2_⟩ => V1.move' (by (conv => lhs; whnf) <;> rfl)) ?_
          refine TK.take 1 rfl (by decide +kernel) (by decide +kernel) (by decide +kernel) rfl (fun _ _ _ h => h) (fun L_ ⟨k1_, k2_⟩ => V1.move' (by (conv => lhs; whnf) <;> rfl)) ?_
          refine TD.takeNo (i := 2) rfl (by decide +kernel) (by decide +kernel) (by decide +kernel) rfl (fun _ _ _ h => h) ?_
          refine TD.takeNo (i := 3) rfl (by decide +kernel) (by decide +kernel) (by decide +kernel) rfl (fun _ _ _ h => h) ?_
          refine TD.takeNo (i := 4) rfl (by decide +kernel) (by decide +kernel) (by decide +kernel) rfl (fun _ _ _ h => h) ?_
          refine TD.takeNo (i := 5) rfl (by decide +kernel) (by decide +kernel) (by decide +kernel) rfl (fun _ _ _ h => h) ?_
          refine TD.takeNo (i := 6) rfl (by decide +kernel) (by decide +kernel) (by decide +kernel) rfl (fun _ _ _ h => h) ?_
          refine TD.takeNo (i := 7) rfl (by decide +kernel) (by decide +kernel) (by decide +kernel) rfl (fun _ _ _ h => h) ?_
          refine TK.take 8 rfl (by decide +kernel) (by decide +kernel) (by decide +kernel) rfl (fun _ _ _ h => h) (fun L_ ⟨k1_, k2_⟩ => V1.pick rfl (by (conv => lhs; whnf) <;> rfl)) ?_
          refine TK.take 9 rfl (by decide +kernel) (by decide +kernel) (by decide +kernel) rfl (fun _ _ _ h => h) (fun L_ ⟨k1_, k2_⟩ => V1.move' (by (conv => lhs; whnf) <;> rfl)) ?_
          refine TD.takeNo (i := 10) rfl (by decide +kernel) (by decide +kernel) (by decide +kernel) rfl (fun _ _ _ h => h) ?_
          refine TD.takeNo (i := 11) rfl (by decide +kernel) (by decide +kernel) (by decide +kernel) rfl (fun _ _ _ h => h) ?_
          refine TD.takeNo (i := 12) rfl (by decide +kernel) (by decide +kernel) (by decide +kernel) rfl (fun _ _ _ h => h) ?_
          refine TD.takeNo (i := 13) rfl (by decide +kernel) (by decide +kernel) (by decide +kernel) rfl (fun _ _ _ h => h) ?_
          refine TD.takeNo (i := 14) rfl (by decide +kernel) (by decide +kernel) (by decide +kernel) rfl (fun _ _ _ h => h) ?_
          refine TD.takeNo (i := 15) rfl (by decide +kernel) (by decide +kernel) (by decide +kernel) rfl (fun _ _ _ h => h) ?_
          refine TD.takeNo (i := 16) rfl (by decide +kernel) (by decide +kernel) (by decide +kernel) rfl (fun _ _ _ h => h) ?_
          refine TD.takeNo (i := 17) rfl (by decide +kernel) (by decide +kernel) (by decide +kernel) rfl (fun _ _ _ h => h) ?_
          refine TK.take 18 rfl (by decide +kernel) (by decide +kernel) (by decide +kernel) rfl (fun _ _ _ h => h) (fun L_ ⟨k1_, k2_⟩ => V1.pick rfl (by (conv => lhs; whnf) <;> rfl)) ?_
          refine TD.done (by decide +kernel) ?_
          refine T.cond_f rfl ?_
          refine T.skip ?_
          refine T.live (l := [(0, _), (4, _), (5, _), (14, _)]) (.cons (by (conv => lhs; whnf) <;> rfl) (.cons (by (conv => lhs; whnf) <;> rfl) (.cons (by (conv => lhs; whnf) <;> rfl) (.cons (by (conv => lhs; whnf) <;> rfl) .nil)))) (fun e_ => ?_)
          refine T.region ?_
          refine TL.cons rfl (V1.t (V1.add rfl rfl (wrap_i64 _ (by omega) (by omega))) ?_)
          refine TL.cons rfl (V1.t (V1.move' (by (conv => lhs; whnf) <;> rfl)) ?_)
          refine TL.nil ?_
          refine TR.step ?_
          refine T.seq ?_
          refine T.region ?_
          refine TL.cons rfl (V1.t (V1.ltI rfl rfl (decide_eq_false (by omega))) ?_)
          ·
            refine TL.nil ?_
            refine T.seq ?_
            refine T.cond_f rfl ?_
            refine T.exit ?_
            refine T.seq ?_
            refine T.seq ?_
            refine T.region ?_
            refine TL.cons rfl (V1.t (V1.move' (by (conv => lhs; whnf) <;> rfl)) ?_)
            refine TL.cons rfl (V1.t (V1.not rfl rfl) ?_)
            refine TL.cons rfl (V1.t (V1.move' (by (conv => lhs; whnf) <;> rfl)) ?_)
            refine TL.cons rfl (V1.t (V1.move' (by (conv => lhs; whnf) <;> rfl)) ?_)
            refine TL.cons rfl (T1.callX (X := [(⟨bd, 0, [.slice (some ⟨ba, 0, none⟩) a.length a.length, .int .i64 pw], 2⟩ : Blk), (⟨ba, 0, List.map byteV a, a.length⟩ : Blk)]) has_19 rfl (blank_any _ bd ba a pw hal) (by repeat (first | exact Take.nil | apply Take.one (by repeat (first | exact Pick.here | apply Pick.there | apply Pick.far)) | apply Take.seg (by repeat (first | exact PickS.last | exact PickS.one | exact PickS.here | exact PickS.nil | apply PickS.there | apply PickS.far)) | exact Take.last (by repeat (first | exact PickS.last | exact PickS.one | exact PickS.here | exact PickS.nil | apply PickS.there | apply PickS.far)))) (fun v Y hY => ?_))
            obtain ⟨rfl, rfl⟩ := hY
            simp only [List.cons_append, List.nil_append]
            refine TL.cons rfl (V1.t (V1.not rfl rfl) ?_)
            refine TL.cons rfl (V1.t (V1.pick rfl (by (conv => lhs; whnf) <;> rfl)) ?_)
            refine TL.nil ?_
            refine T.cond_split rfl (fun hc => ?_) (fun hc => ?_)
            ·
              refine T.seq ?_
              refine T.drawK (fun L_ => Find L_ (⟨bd, 0, [.slice (some ⟨ba, 0, none⟩) a.length a.length, .int .i64 pw], 2⟩ : Blk)) mixed (by repeat (first | exact Find.here | assumption | apply Find.there | apply Find.far)) ?_
              refine TK.take 0 rfl (by decide +kernel) (by decide +kernel) (by decide +kernel) rfl (fun _ _ _ h => h) (fun L_ k1_ => V1.move' (by (conv => lhs; whnf) <;> rfl)) ?_
              refine TK.take 1 rfl (by decide +kernel) (by decide +kernel) (by decide +kernel) rfl (fun _ _ _ h => h) (fun L_ k1_ => V1.nilCheck rfl) ?_
              refine TK.take 2 rfl (by decide +kernel) (by decide +kernel) (by decide +kernel) rfl (fun _ _ _ h => h) (fun L_ k1_ => V1.fieldAddr fl_53_0 rfl) ?_
              refine TK.take 3 rfl (by decide +kernel) (by decide +kernel) (by decide +kernel) rfl (fun _ _ _ h => h) (fun L_ k1_ => V1.load1 one_33 rfl (.own (cells := [.slice (some ⟨ba, 0, none⟩) a.length a.length, .int .i64 pw]) (by repeat (first | exact Find.here | assumption | apply Find.there | apply Find.far)) (by rfl))) ?_
              refine TK.take 4 rfl (by decide +kernel) (by decide +kernel) (by decide +kernel) rfl (fun _ _ _ h => h) (fun L_ k1_ => V1.move' (by (conv => lhs; whnf) <;> rfl)) ?_
              refine TK.take 8 rfl (by decide +kernel) (by decide +kernel) (by decide +kernel) rfl (fun _ _ _ h => h) (fun L_ k1_ => V1.move' (by (conv => lhs; whnf) <;> rfl)) ?_
              refine TK.one 5 (by decide +kernel) rfl rfl (T1.callX (X := [(⟨bd, 0, [.slice (some ⟨ba, 0, none⟩) a.length a.length, .int .i64 pw], 2⟩ : Blk)]) has_20 rfl (room_any _ bd ba a.length pw hal) (by repeat (first | exact Take.nil | apply Take.one (by repeat (first | exact Pick.here | apply Pick.there | apply Pick.far)) | apply Take.seg (by repeat (first | exact PickS.last | exact PickS.one | exact PickS.here | exact PickS.nil | apply PickS.there | apply PickS.far)) | exact Take.last (by repeat (first | exact PickS.last | exact PickS.one | exact PickS.here | exact PickS.nil | apply PickS.there | apply PickS.far)))) (fun v Y hY => ?_))
              obtain ⟨rfl, rfl⟩ := hY
              simp only [List.cons_append, List.nil_append]
              rw [show a.length / 2 = r from by omega]
              refine ⟨(by repeat (first | exact Find.here | assumption | apply Find.there | apply Find.far)), ?_⟩
              refine TK.take 6 rfl (by decide +kernel) (by decide +kernel) (by decide +kernel) rfl (fun _ _ _ h => h) (fun L_ k1_ => V1.sliceTo r ty_33 sz_5 rfl rfl rfl (by omega) (Nat.le_refl _)) ?_
              refine TK.take 7 rfl (by decide +kernel) (by decide +kernel) (by decide +kernel) rfl (fun _ _ _ h => h) (fun L_ k1_ => V1.lenSl ty_33 rfl) ?_
              refine TD.done (by decide +kernel) ?_
              refine T.block ?_
              refine T.loopL (σ := Nat) (l0 := [(4, _), (60, _), (61, _)]) (fun x => [(62, .int .i64 (x : Nat))]) (fun k L => L = ⟨b13, 0, [.int .u64 0, .slice none 0 0, .pointer (some ⟨bd, 0, none⟩)], 3⟩ :: (⟨bd, 0, [.slice (some ⟨ba, 0, none⟩) a.length a.length, .int .i64 pw], 2⟩ : Blk) :: (⟨ba, 0, List.map byteV a, a.length⟩ : Blk) :: G ∧ k ≤ r ∧ (∀ y ∈ a.take k, y = 0)) (fun x => r - x) 0 (.cons rfl .nil) (.cons (by (conv => lhs; whnf) <;> rfl) (.cons (by (conv => lhs; whnf) <;> rfl) (.cons (by (conv => lhs; whnf) <;> rfl) .nil))) (by repeat (first | exact Take.nil | apply Take.one (by repeat (first | exact Pick.here | apply Pick.there | apply Pick.far)) | apply Take.seg (by repeat (first | exact PickS.last | exact PickS.one | exact PickS.here | exact PickS.nil | apply PickS.there | apply PickS.far)) | exact Take.last (by repeat (first | exact PickS.last | exact PickS.one | exact PickS.here | exact PickS.nil | apply PickS.there | apply PickS.far)))) (⟨rfl, Nat.zero_le _, by simp⟩) ?_
              rintro k e_ L ⟨rfl, hk, hz⟩
              refine T.seq ?_
              refine T.region ?_
              refine TL.cons rfl (T1.ltI_split rfl rfl (fun h12 => ?_) (fun h12 => ?_))
              ·
                obtain ⟨x, hx⟩ : ∃ z, a[k]? = some z := ⟨_, List.getElem?_eq_getElem (by omega)⟩
                refine TL.nil ?_
                refine T.seq ?_
                refine T.cond_t rfl ?_
                refine T.skip ?_
                refine T.seq ?_
                refine T.block ?_
                refine T.seq ?_
                refine T.region ?_
                refine TL.cons rfl (V1.t (V1.indexAddrS ty_33 sz_5 rfl rfl (by omega) (by omega)) ?_)
                refine TL.cons rfl (V1.t (V1.load1 one_5 rfl (show Rd _ _ ⟨ba, 0 + k * 1, none⟩ (byteV x) from by rw [Nat.mul_one]; exact Rd.at (cells := List.map byteV a) (by repeat (first | exact Find.here | assumption | apply Find.there | apply Find.far)) (by rw [List.getElem?_map, hx]; rfl))) ?_)
                refine TL.cons rfl (V1.t (V1.assign' (by (conv => lhs; whnf) <;> rfl)) ?_)
                refine TL.nil ?_
                refine T.seq ?_
                refine T.region ?_
                refine TL.cons rfl (V1.t (V1.move' (by (conv => lhs; whnf) <;> rfl)) ?_)
                refine TL.cons rfl (T1.neI_split rfl rfl (fun h14 => ?_) (fun h14 => ?_))
                ·
                  refine TL.nil ?_
                  refine T.cond_t rfl ?_
                  refine T.seq ?_
                  refine T.region ?_
                  refine TL.cons rfl (V1.t (V1.assign' (by (conv => lhs; whnf) <;> rfl)) ?_)
                  refine TL.cons rfl (V1.t (V1.assign' (by (conv => lhs; whnf) <;> rfl)) ?_)
                  refine TL.nil ?_
                  refine T.ret ?_
                  have hpx : plc r 0 a = a.take r := by unfold plc; rw [Nat.zero_mul, List.drop_zero]
                  exact ⟨_, (⟨bd, 0, [.slice (some ⟨ba, 0, none⟩) a.length a.length, .int .i64 pw], 2⟩ : Blk) :: (⟨ba, 0, List.map byteV a, a.length⟩ : Blk) :: G, _, .cons (.tmp (by (conv => lhs; whnf) <;> rfl)) (.cons (.tmp (by (conv => lhs; whnf) <;> rfl)) .nil), (by repeat (first | exact Take.nil | apply Take.one (by repeat (first | exact Pick.here | apply Pick.there | apply Pick.far)) | apply Take.seg (by repeat (first | exact PickS.last | exact PickS.one | exact PickS.here | exact PickS.nil | apply PickS.there | apply PickS.far)) | exact Take.last (by repeat (first | exact PickS.last | exact PickS.one | exact PickS.here | exact PickS.nil | apply PickS.there | apply PickS.far)))), [(⟨bd, 0, [.slice (some ⟨ba, 0, none⟩) a.length a.length, .int .i64 pw], 2⟩ : Blk), (⟨ba, 0, List.map byteV a, a.length⟩ : Blk)], rfl, by rw [openP_n hx0 hy1 (b := x) (by rw [hpx]; exact List.mem_of_getElem? (show (a.take r)[k]? = some x by rw [List.getElem?_take, if_pos (by omega)]; exact hx)) (by rintro rfl; exact h14 rfl)]; exact ⟨rfl, rfl⟩⟩
                ·
                  have hx00 : x = 0 := by apply UInt8.toNat_inj.1; show x.toNat = 0; omega
                  refine TL.nil ?_
                  refine T.cond_f rfl ?_
                  refine T.skip ?_
                  refine T.region ?_
                  refine TL.cons rfl (V1.t (V1.add rfl rfl (wrap_i64 _ (by omega) (by omega))) ?_)
                  refine TL.cons rfl (V1.t (V1.move' (by (conv => lhs; whnf) <;> rfl)) ?_)
                  refine TL.nil ?_
                  exact ⟨k + 1, _, _, (by simp only; omega), (.cons rfl .nil), (.cons rfl (.cons rfl (.cons rfl .nil))), (by repeat (first | exact Take.nil | apply Take.one (by repeat (first | exact Pick.here | apply Pick.there | apply Pick.far)) | apply Take.seg (by repeat (first | exact PickS.last | exact PickS.one | exact PickS.here | exact PickS.nil | apply PickS.there | apply PickS.far)) | exact Take.last (by repeat (first | exact PickS.last | exact PickS.one | exact PickS.here | exact PickS.nil | apply PickS.there | apply PickS.far)))), ⟨rfl, by omega, (all_take hx).2 ⟨hz, hx00⟩⟩⟩
              ·
                have hkr : k = r := by omega
                rw [hkr] at hz
                refine TL.nil ?_
                refine T.seq ?_
                refine T.cond_f rfl ?_
                refine T.exit ?_
                refine T.seq ?_
                refine T.region ?_
                refine TL.cons rfl (V1.t (V1.move' (by (conv => lhs; whnf) <;> rfl)) ?_)
                refine TL.cons rfl (V1.t (V1.assign' (by (conv => lhs; whnf) <;> rfl)) ?_)
                refine TL.cons rfl (V1.t (V1.assign' (by (conv => lhs; whnf) <;> rfl)) ?_)
                refine TL.nil ?_
                refine T.ret ?_
                have hpx : plc r 0 a = a.take r := by unfold plc; rw [Nat.zero_mul, List.drop_zero]
                exact ⟨_, ⟨b13, 0, [.int .u64 0, .slice none 0 0, .pointer (some ⟨bd, 0, none⟩)], 3⟩ :: (⟨bd, 0, [.slice (some ⟨ba, 0, none⟩) a.length a.length, .int .i64 pw], 2⟩ : Blk) :: (⟨ba, 0, List.map byteV a, a.length⟩ : Blk) :: G, _, .cons (.tmp (by (conv => lhs; whnf) <;> rfl)) (.cons (.tmp (by (conv => lhs; whnf) <;> rfl)) .nil), (by repeat (first | exact Take.nil | apply Take.one (by repeat (first | exact Pick.here | apply Pick.there | apply Pick.far)) | apply Take.seg (by repeat (first | exact PickS.last | exact PickS.one | exact PickS.here | exact PickS.nil | apply PickS.there | apply PickS.far)) | exact Take.last (by repeat (first | exact PickS.last | exact PickS.one | exact PickS.here | exact PickS.nil | apply PickS.there | apply PickS.far)))), [⟨b13, 0, [.int .u64 0, .slice none 0 0, .pointer (some ⟨bd, 0, none⟩)], 3⟩] ++ [(⟨bd, 0, [.slice (some ⟨ba, 0, none⟩) a.length a.length, .int .i64 pw], 2⟩ : Blk), (⟨ba, 0, List.map byteV a, a.length⟩ : Blk)], rfl, by rw [openP_0 hx0 hy1 (by rw [hpx]; first | exact hz | (have hall : ∀ y ∈ a, y = 0 := (by simpa using hc); exact fun y hy => hall y (List.mem_of_mem_take hy)))]; exact ⟨b13, [⟨b13, 0, [.int .u64 0, .slice none 0 0, .pointer (some ⟨bd, 0, none⟩)], 3⟩], rfl, ⟨_, [], rfl, Sl.nil⟩, rfl⟩⟩
            ·
              refine T.skip ?_
              refine T.seq ?_
              refine T.region ?_
              refine TL.cons rfl (V1.t (V1.move' (by (conv => lhs; whnf) <;> rfl)) ?_)
              refine TL.cons rfl (V1.t (V1.assign' (by (conv => lhs; whnf) <;> rfl)) ?_)
              refine TL.cons rfl (V1.t (V1.assign' (by (conv => lhs; whnf) <;> rfl)) ?_)
              refine TL.nil ?_
              refine T.ret ?_
              have hpx : plc r 0 a = a.take r := by unfold plc; rw [Nat.zero_mul, List.drop_zero]
              exact ⟨_, ⟨b13, 0, [.int .u64 0, .slice none 0 0, .pointer (some ⟨bd, 0, none⟩)], 3⟩ :: (⟨bd, 0, [.slice (some ⟨ba, 0, none⟩) a.length a.length, .int .i64 pw], 2⟩ : Blk) :: (⟨ba, 0, List.map byteV a, a.length⟩ : Blk) :: G, _, .cons (.tmp (by (conv => lhs; whnf) <;> rfl)) (.cons (.tmp (by (conv => lhs; whnf) <;> rfl)) .nil), (by repeat (first | exact Take.nil | apply Take.one (by repeat (first | exact Pick.here | apply Pick.there | apply Pick.far)) | apply Take.seg (by repeat (first | exact PickS.last | exact PickS.one | exact PickS.here | exact PickS.nil | apply PickS.there | apply PickS.far)) | exact Take.last (by repeat (first | exact PickS.last | exact PickS.one | exact PickS.here | exact PickS.nil | apply PickS.there | apply PickS.far)))), [⟨b13, 0, [.int .u64 0, .slice none 0 0, .pointer (some ⟨bd, 0, none⟩)], 3⟩] ++ [(⟨bd, 0, [.slice (some ⟨ba, 0, none⟩) a.length a.length, .int .i64 pw], 2⟩ : Blk), (⟨ba, 0, List.map byteV a, a.length⟩ : Blk)], rfl, by rw [openP_0 hx0 hy1 (by rw [hpx]; first | exact hz | (have hall : ∀ y ∈ a, y = 0 := (by simpa using hc); exact fun y hy => hall y (List.mem_of_mem_take hy)))]; exact ⟨b13, [⟨b13, 0, [.int .u64 0, .slice none 0 0, .pointer (some ⟨bd, 0, none⟩)], 3⟩], rfl, ⟨_, [], rfl, Sl.nil⟩, rfl⟩⟩
        ·
          obtain ⟨rfl, rfl⟩ := hv1 rfl
          have hg1 := (okP_pos hok1.symm).1
          refine TL.cons rfl (V1.t (V1.move' (by (conv => lhs; whnf) <;> rfl)) ?_)
          refine TL.cons rfl (V1.t (V1.extract rfl (by rfl)) ?_)
          refine TL.cons rfl (V1.t (V1.extract rfl (by rfl)) ?_)
          refine TL.cons rfl (T1.allocN 2 zr_55 rfl (fun b7 => ?_))
          refine TL.cons rfl (T1.storeN (vs := [.int .u64 (numP (plc r 1 a) : Nat), .slice sa1 (valP (plc r 1 a)).length sc1]) rfl rfl sz_55 (ones rfl) (by repeat (first | exact Sub.one | apply Sub.there | apply Sub.far)) (by rfl) (by rfl) ?_)
          refine TL.cons rfl (V1.t (V1.assign' rfl) ?_)
          refine TL.nil ?_
          refine T.seq ?_
          refine T.drawK (fun L_ => Find L_ ⟨b7, 0, [.int .u64 (numP (plc r 1 a) : Nat), .slice sa1 (valP (plc r 1 a)).length sc1], 2⟩ ∧ Find L_ ⟨b13, 0, [.int .u64 0, .slice none 0 0, .pointer (some ⟨bd, 0, none⟩)], 3⟩) mixed ⟨(by repeat (first | exact Find.here | assumption | apply Find.there | apply Find.far)), (by repeat (first | exact Find.here | assumption | apply Find.there | apply Find.far))⟩ ?_
          refine TK.take 0 rfl (by decide +kernel) (by decide +kernel) (by decide +kernel) rfl (fun _ _ _ h => h) (fun L_ ⟨k1_, k2_⟩ => V1.move' (by (conv => lhs; whnf) <;> rfl)) ?_
          refine TK.take 1 rfl (by decide +kernel) (by decide +kernel) (by decide +kernel) rfl (fun _ _ _ h => h) (fun L_ ⟨k1_, k2_⟩ => V1.move' (by (conv => lhs; whnf) <;> rfl)) ?_
          refine TK.take 2 rfl (by decide +kernel) (by decide +kernel) (by decide +kernel) rfl (fun _ _ _ h => h) (fun L_ ⟨k1_, k2_⟩ => V1.fieldAddr fl_55_0 rfl) ?_
          refine TK.take 3 rfl (by decide +kernel) (by decide +kernel) (by decide +kernel) rfl (fun _ _ _ h => h) (fun L_ ⟨k1_, k2_⟩ => V1.load1 one_32 rfl (.own (cells := [.int .u64 (numP (plc r 1 a) : Nat), .slice sa1 (valP (plc r 1 a)).length sc1]) (by repeat (first | exact Find.here | assumption | apply Find.there | apply Find.far)) (by rfl))) ?_
          refine TK.take 4 rfl (by decide +kernel) (by decide +kernel) (by decide +kernel) rfl (fun _ _ _ h => h) (fun L_ ⟨k1_, k2_⟩ => V1.rem (c := ((numP (plc r 1 a) % 2 : Nat) : Int)) rfl rfl (by decide) ((Int.ofNat_tmod _ 2).symm)) ?_
          refine TK.take 5 rfl (by decide +kernel) (by decide +kernel) (by decide +kernel) rfl (fun _ _ _ h => h) (fun L_ ⟨k1_, k2_⟩ => V1.move' (by (conv => lhs; whnf) <;> rfl)) ?_
          refine TK.take 6 rfl (by decide +kernel) (by decide +kernel) (by decide +kernel) rfl (fun _ _ _ h => h) (fun L_ ⟨k1_, k2_⟩ => V1.conv (c := 1) ty_3 ty_32 rfl (by decide)) ?_
          refine TK.take 7 rfl (by decide +kernel) (by decide +kernel) (by decide +kernel) rfl (fun _ _ _ h => h) (fun L_ ⟨k1_, k2_⟩ => V1.eqI (r := true) rfl rfl (decide_eq_true (by omega))) ?_
          refine TK.take 8 rfl (by decide +kernel) (by decide +kernel) (by decide +kernel) rfl (fun _ _ _ h => h) (fun L_ ⟨k1_, k2_⟩ => V1.pick rfl (by (conv => lhs; whnf) <;> rfl)) ?_
          refine TK.take 9 rfl (by decide +kernel) (by decide +kernel) (by decide +kernel) rfl (fun _ _ _ h => h) (fun L_ ⟨k1_, k2_⟩ => V1.move' (by (conv => lhs; whnf) <;> rfl)) ?_
          refine TK.take 10 rfl (by decide +kernel) (by decide +kernel) (by decide +kernel) rfl (fun _ _ _ h => h) (fun L_ ⟨k1_, k2_⟩ => V1.fieldAddr fl_55_0 rfl) ?_
          refine TK.take 11 rfl (by decide +kernel) (by decide +kernel) (by decide +kernel) rfl (fun _ _ _ h => h) (fun L_ ⟨k1_, k2_⟩ => V1.load1 one_32 rfl (.own (cells := [.int .u64 (numP (plc r 1 a) : Nat), .slice sa1 (valP (plc r 1 a)).length sc1]) (by repeat (first | exact Find.here | assumption | apply Find.there | apply Find.far)) (by rfl))) ?_
          refine TK.take 12 rfl (by decide +kernel) (by decide +kernel) (by decide +kernel) rfl (fun _ _ _ h => h) (fun L_ ⟨k1_, k2_⟩ => V1.move' (by (conv => lhs; whnf) <;> rfl)) ?_
          refine TK.take 13 rfl (by decide +kernel) (by decide +kernel) (by decide +kernel) rfl (fun _ _ _ h => h) (fun L_ ⟨k1_, k2_⟩ => V1.nilCheck rfl) ?_
          refine TK.take 14 rfl (by decide +kernel) (by decide +kernel) (by decide +kernel) rfl (fun _ _ _ h => h) (fun L_ ⟨k1_, k2_⟩ => V1.fieldAddr fl_57_0 rfl) ?_
          refine TK.take 15 rfl (by decide +kernel) (by decide +kernel) (by decide +kernel) rfl (fun _ _ _ h => h) (fun L_ ⟨k1_, k2_⟩ => V1.fieldAddr fl_55_0 rfl) ?_
          refine TK.take 16 rfl (by decide +kernel) (by decide +kernel) (by decide +kernel) rfl (fun _ _ _ h => h) (fun L_ ⟨k1_, k2_⟩ => V1.load1 one_32 rfl (.own (cells := [.int .u64 0, .slice none 0 0, .pointer (some ⟨bd, 0, none⟩)]) (by repeat (first | exact Find.here | assumption | apply Find.there | apply Find.far)) (by rfl))) ?_
          refine TK.take 17 rfl (by decide +kernel) (by decide +kernel) (by decide +kernel) rfl (fun _ _ _ h => h) (fun L_ ⟨k1_, k2_⟩ => V1.gtI (r := true) rfl rfl (decide_eq_true (by omega))) ?_
          refine TK.take 18 rfl (by decide +kernel) (by decide +kernel) (by decide +kernel) rfl (fun _ _ _ h => h) (fun L_ ⟨k1_, k2_⟩ => V1.pick rfl (by (conv => lhs; whnf) <;> rfl)) ?_
          refine TD.done (by decide +kernel) ?_
          refine T.cond_t rfl ?_
          refine T.live (l := [(0, _), (4, _), (7, _), (14, _)]) (.cons (by (conv => lhs; whnf) <;> rfl) (.cons (by (conv => lhs; whnf) <;> rfl) (.cons (by (conv => lhs; whnf) <;> rfl) (.cons (by (conv => lhs; whnf) <;> rfl) .nil)))) (fun e_ => ?_)
          refine T.region ?_
          refine TL.cons rfl (V1.t (V1.move' (by (conv => lhs; whnf) <;> rfl)) ?_)
          refine TL.cons rfl (V1.t (V1.loadN (vs := [.int .u64 (numP (plc r 1 a) : Nat), .slice sa1 (valP (plc r 1 a)).length sc1]) one_55 sz_55 rfl (RdN.whole (by repeat (first | exact Find.here | assumption | apply Find.there | apply Find.far))) (by rfl)) ?_)
          refine TL.cons rfl (V1.t (V1.nilCheck rfl) ?_)
          refine TL.cons rfl (V1.t (V1.fieldAddr fl_57_0 rfl) ?_)
          refine TL.cons rfl (T1.storeM (o := 0) (cells := [.int .u64 0, .slice none 0 0, .pointer (some ⟨bd, 0, none⟩)]) (vs := [.int .u64 (numP (plc r 1 a) : Nat), .slice sa1 (valP (plc r 1 a)).length sc1]) rfl rfl sz_55 (ones rfl) (by repeat (first | exact Sub.one | apply Sub.there | apply Sub.far)) (Nat.le_refl _) (by simp only [List.length_cons, List.length_nil]; omega) rfl ?_)
          rw [show putN [.int .u64 0, .slice none 0 0, .pointer (some ⟨bd, 0, none⟩)] (0 - 0) [.int .u64 (numP (plc r 1 a) : Nat), .slice sa1 (valP (plc r 1 a)).length sc1] = [.int .u64 (numP (plc r 1 a) : Nat), .slice sa1 (valP (plc r 1 a)).length sc1, .pointer (some ⟨bd, 0, none⟩)] from rfl]
          ·
            refine TL.cons rfl (V1.t (V1.assign' (by (conv => lhs; whnf) <;> rfl)) ?_)
            refine TL.nil ?_
            refine T.region ?_
            refine TL.cons rfl (V1.t (V1.add rfl rfl (wrap_i64 _ (by omega) (by omega))) ?_)
            refine TL.cons rfl (V1.t (V1.move' (by (conv => lhs; whnf) <;> rfl)) ?_)
            refine TL.nil ?_
            refine TR.step ?_
            refine T.seq ?_
            refine T.region ?_
            refine TL.cons rfl (V1.t (V1.ltI rfl rfl (decide_eq_false (by omega))) ?_)
            ·
              refine TL.nil ?_
              refine T.seq ?_
              refine T.cond_f rfl ?_
              refine T.exit ?_
              refine T.seq ?_
              refine T.seq ?_
              refine T.region ?_
              refine TL.cons rfl (V1.t (V1.move' (by (conv => lhs; whnf) <;> rfl)) ?_)
              refine TL.cons rfl (V1.t (V1.not rfl rfl) ?_)
              refine TL.cons rfl (V1.t (V1.move' (by (conv => lhs; whnf) <;> rfl)) ?_)
              refine TL.no rfl ?_
              refine TL.no rfl ?_
              refine TL.no rfl ?_
              refine TL.cons rfl (V1.t (V1.pick rfl (by (conv => lhs; whnf) <;> rfl)) ?_)
              refine TL.nil ?_
              refine T.cond_f rfl ?_
              refine T.skip ?_
              refine T.seq ?_
              refine T.live (l := [(4, _)]) (.cons (by (conv => lhs; whnf) <;> rfl) .nil) (fun e_ => ?_)
              refine T.region ?_
              refine TL.cons rfl (V1.t (V1.move' (by (conv => lhs; whnf) <;> rfl)) ?_)
              refine TL.cons rfl (V1.t (V1.assign' (by (conv => lhs; whnf) <;> rfl)) ?_)
              refine TL.cons rfl (V1.t (V1.assign' (by (conv => lhs; whnf) <;> rfl)) ?_)
              refine TL.nil ?_
              refine T.ret ?_
              exact ⟨_, ⟨b13, 0, [.int .u64 (numP (plc r 1 a) : Nat), .slice sa1 (valP (plc r 1 a)).length sc1, .pointer (some ⟨bd, 0, none⟩)], 3⟩ :: (Ls1 ++ ((⟨bd, 0, [.slice (some ⟨ba, 0, none⟩) a.length a.length, .int .i64 pw], 2⟩ : Blk) :: (⟨ba, 0, List.map byteV a, a.length⟩ : Blk) :: G)), _, .cons (.tmp (by (conv => lhs; whnf) <;> rfl)) (.cons (.tmp (by (conv => lhs; whnf) <;> rfl)) .nil), (by repeat (first | exact Take.nil | apply Take.one (by repeat (first | exact Pick.here | apply Pick.there | apply Pick.far)) | apply Take.seg (by repeat (first | exact PickS.last | exact PickS.one | exact PickS.here | exact PickS.nil | apply PickS.there | apply PickS.far)) | exact Take.last (by repeat (first | exact PickS.last | exact PickS.one | exact PickS.here | exact PickS.nil | apply PickS.there | apply PickS.far)))), (⟨b13, 0, [.int .u64 (numP (plc r 1 a) : Nat), .slice sa1 (valP (plc r 1 a)).length sc1, .pointer (some ⟨bd, 0, none⟩)], 3⟩ :: Ls1) ++ [(⟨bd, 0, [.slice (some ⟨ba, 0, none⟩) a.length a.length, .int .i64 pw], 2⟩ : Blk), (⟨ba, 0, List.map byteV a, a.length⟩ : Blk)], by simp, by rw [openP_y hok1.symm hp1 (fun h => hx0 ⟨h.1, h.2.1⟩)]; exact ⟨b13, ⟨b13, 0, [.int .u64 (numP (plc r 1 a) : Nat), .slice sa1 (valP (plc r 1 a)).length sc1, .pointer (some ⟨bd, 0, none⟩)], 3⟩ :: Ls1, rfl, ⟨_, Ls1, rfl, hs1⟩, rfl⟩⟩
        ·
          obtain ⟨rfl, rfl⟩ := hv1 rfl
          have hy1 : ¬ (okP (plc r 1 a) = true ∧ numP (plc r 1 a) % 2 = 1) := fun h => hp1 h.2
          refine TL.cons rfl (V1.t (V1.move' (by (conv => lhs; whnf) <;> rfl)) ?_)
          refine TL.cons rfl (V1.t (V1.extract rfl (by rfl)) ?_)
          refine TL.cons rfl (V1.t (V1.extract rfl (by rfl)) ?_)
          refine TL.cons rfl (T1.allocN 2 zr_55 rfl (fun b7 => ?_))
          refine TL.cons rfl (T1.storeN (vs := [.int .u64 (numP (plc r 1 a) : Nat), .slice sa1 (valP (plc r 1 a)).length sc1]) rfl rfl sz_55 (ones rfl) (by repeat (first | exact Sub.one | apply Sub.there | apply Sub.far)) (by rfl) (by rfl) ?_)
          refine TL.cons rfl (V1.t (V1.assign' rfl) ?_)
          refine TL.nil ?_
          refine T.seq ?_
          refine T.drawK (fun L_ => Find L_ ⟨b7, 0, [.int .u64 (numP (plc r 1 a) : Nat), .slice sa1 (valP (plc r 1 a)).length sc1], 2⟩ ∧ Find L_ ⟨b13, 0, [.int .u64 0, .slice none 0 0, .pointer (some ⟨bd, 0, none⟩)], 3⟩) mixed ⟨(by repeat (first | exact Find.here | assumption | apply Find.there | apply Find.far)), (by repeat (first | exact Find.here | assumption | apply Find.there | apply Find.far))⟩ ?_
          refine TK.take 0 rfl (by decide +kernel) (by decide +kernel) (by decide +kernel) rfl (fun _ _ _ h => h) (fun L_ ⟨k1_, k2_⟩ => V1.move' (by (conv => lhs; whnf) <;> rfl)) ?_
          refine TK.take 1 rfl (by decide +kernel) (by decide +kernel) (by decide +kernel) rfl (fun _ _ _ h => h) (fun L_ ⟨k1_, k2_⟩ => V1.move' (by (conv => lhs; whnf) <;> rfl)) ?_
          refine TK.take 2 rfl (by decide +kernel) (by decide +kernel) (by decide +kernel) rfl (fun _ _ _ h => h) (fun L_ ⟨k1_, k2_⟩ => V1.fieldAddr fl_55_0 rfl) ?_
          refine TK.take 3 rfl (by decide +kernel) (by decide +kernel) (by decide +kernel) rfl (fun _ _ _ h => h) (fun L_ ⟨k1_, k2_⟩ => V1.load1 one_32 rfl (.own (cells := [.int .u64 (numP (plc r 1 a) : Nat), .slice sa1 (valP (plc r 1 a)).length sc1]) (by repeat (first | exact Find.here | assumption | apply Find.there | apply Find.far)) (by rfl))) ?_
          refine TK.take 4 rfl (by decide +kernel) (by decide +kernel) (by decide +kernel) rfl (fun _ _ _ h => h) (fun L_ ⟨k1_, k2_⟩ => V1.rem (c := ((numP (plc r 1 a) % 2 : Nat) : Int)) rfl rfl (by decide) ((Int.ofNat_tmod _ 2).symm)) ?_
          refine TK.take 5 rfl (by decide +kernel) (by decide +kernel) (by decide +kernel) rfl (fun _ _ _ h => h) (fun L_ ⟨k1_, k2_⟩ => V1.move' (by (conv => lhs; whnf) <;> rfl)) ?_
          refine TK.take 6 rfl (by decide +kernel) (by decide +kernel) (by decide +kernel) rfl (fun _ _ _ h => h) (fun L_ ⟨k1_, k2_⟩ => V1.conv (c := 1) ty_3 ty_32 rfl (by decide)) ?_
          refine TK.take 7 rfl (by decide +kernel) (by decide +kernel) (by decide +kernel) rfl (fun _ _ _ h => h) (fun L_ ⟨k1_, k2_⟩ => V1.eqI (r := false) rfl rfl (decide_eq_false (by omega))) ?_
          refine TK.take 8 rfl (by decide +kernel) (by decide +kernel) (by decide +kernel) rfl (fun _ _ _ h => h) (fun L_ ⟨k1_, k2_⟩ => V1.pick rfl (by (conv => lhs; whnf) <;> rfl)) ?_
          refine TK.take 9 rfl (by decide +kernel) (by decide +kernel) (by decide +kernel) rfl (fun _ _ _ h => h) (fun L_ ⟨k1_, k2_⟩ => V1.move' (by (conv => lhs; whnf) <;> rfl)) ?_
          refine TD.takeNo (i := 10) rfl (by decide +kernel) (by decide +kernel) (by decide +kernel) rfl (fun _ _ _ h => h) ?_
          refine TD.takeNo (i := 11) rfl (by decide +kernel) (by decide +kernel) (by decide +kernel) rfl (fun _ _ _ h => h) ?_
          refine TD.takeNo (i := 12) rfl (by decide +kernel) (by decide +kernel) (by decide +kernel) rfl (fun _ _ _ h => h) ?_
          refine TD.takeNo (i := 13) rfl (by decide +kernel) (by decide +kernel) (by decide +kernel) rfl (fun _ _ _ h => h) ?_
          refine TD.takeNo (i := 14) rfl (by decide +kernel) (by decide +kernel) (by decide +kernel) rfl (fun _ _ _ h => h) ?_
          refine TD.takeNo (i := 15) rfl (by decide +kernel) (by decide +kernel) (by decide +kernel) rfl (fun _ _ _ h => h) ?_
          refine TD.takeNo (i := 16) rfl (by decide +kernel) (by decide +kernel) (by decide +kernel) rfl (fun _ _ _ h => h) ?_
          refine TD.takeNo (i := 17) rfl (by decide +kernel) (by decide +kernel) (by decide +kernel) rfl (fun _ _ _ h => h) ?_
          refine TK.take 18 rfl (by decide +kernel) (by decide +kernel) (by decide +kernel) rfl (fun _ _ _ h => h) (fun L_ ⟨k1_, k2_⟩ => V1.pick rfl (by (conv => lhs; whnf) <;> rfl)) ?_
          refine TD.done (by decide +kernel) ?_
          refine T.cond_f rfl ?_
          refine T.skip ?_
          refine T.live (l := [(0, _), (4, _), (5, _), (14, _)]) (.cons (by (conv => lhs; whnf) <;> rfl) (.cons (by (conv => lhs; whnf) <;> rfl) (.cons (by (conv => lhs; whnf) <;> rfl) (.cons (by (conv => lhs; whnf) <;> rfl) .nil)))) (fun e_ => ?_)
          refine T.region ?_
          refine TL.cons rfl (V1.t (V1.add rfl rfl (wrap_i64 _ (by omega) (by omega))) ?_)
          refine TL.cons rfl (V1.t (V1.move' (by (conv => lhs; whnf) <;> rfl)) ?_)
          refine TL.nil ?_
          refine TR.step ?_
          refine T.seq ?_
          refine T.region ?_
          refine TL.cons rfl (V1.t (V1.ltI rfl rfl (decide_eq_false (by omega))) ?_)
          ·
            refine TL.nil ?_
            refine T.seq ?_
            refine T.cond_f rfl ?_
            refine T.exit ?_
            refine T.seq ?_
            refine T.seq ?_
            refine T.region ?_
            refine TL.cons rfl (V1.t (V1.move' (by (conv => lhs; whnf) <;> rfl)) ?_)
            refine TL.cons rfl (V1.t (V1.not rfl rfl) ?_)
            refine TL.cons rfl (V1.t (V1.move' (by (conv => lhs; whnf) <;> rfl)) ?_)
            refine TL.cons rfl (V1.t (V1.move' (by (conv => lhs; whnf) <;> rfl)) ?_)
            refine TL.cons rfl (T1.callX (X := [(⟨bd, 0, [.slice (some ⟨ba, 0, none⟩) a.length a.length, .int .i64 pw], 2⟩ : Blk), (⟨ba, 0, List.map byteV a, a.length⟩ : Blk)]) has_19 rfl (blank_any _ bd ba a pw hal) (by repeat (first | exact Take.nil | apply Take.one (by repeat (first | exact Pick.here | apply Pick.there | apply Pick.far)) | apply Take.seg (by repeat (first | exact PickS.last | exact PickS.one | exact PickS.here | exact PickS.nil | apply PickS.there | apply PickS.far)) | exact Take.last (by repeat (first | exact PickS.last | exact PickS.one | exact PickS.here | exact PickS.nil | apply PickS.there | apply PickS.far)))) (fun v Y hY => ?_))
            obtain ⟨rfl, rfl⟩ := hY
            simp only [List.cons_append, List.nil_append]
            refine TL.cons rfl (V1.t (V1.not rfl rfl) ?_)
            refine TL.cons rfl (V1.t (V1.pick rfl (by (conv => lhs; whnf) <;> rfl)) ?_)
            refine TL.nil ?_
            refine T.cond_split rfl (fun hc => ?_) (fun hc => ?_)
            ·
              refine T.seq ?_
              refine T.drawK (fun L_ => Find L_ (⟨bd, 0, [.slice (some ⟨ba, 0, none⟩) a.length a.length, .int .i64 pw], 2⟩ : Blk)) mixed (by repeat (first | exact Find.here | assumption | apply Find.there | apply Find.far)) ?_
              refine TK.take 0 rfl (by decide +kernel) (by decide +kernel) (by decide +kernel) rfl (fun _ _ _ h => h) (fun L_ k1_ => V1.move' (by (conv => lhs; whnf) <;> rfl)) ?_
              refine TK.take 1 rfl (by decide +kernel) (by decide +kernel) (by decide +kernel) rfl (fun _ _ _ h => h) (fun L_ k1_ => V1.nilCheck rfl) ?_
              refine TK.take 2 rfl (by decide +kernel) (by decide +kernel) (by decide +kernel) rfl (fun _ _ _ h => h) (fun L_ k1_ => V1.fieldAddr fl_53_0 rfl) ?_
              refine TK.take 3 rfl (by decide +kernel) (by decide +kernel) (by decide +kernel) rfl (fun _ _ _ h => h) (fun L_ k1_ => V1.load1 one_33 rfl (.own (cells := [.slice (some ⟨ba, 0, none⟩) a.length a.length, .int .i64 pw]) (by repeat (first | exact Find.here | assumption | apply Find.there | apply Find.far)) (by rfl))) ?_
              refine TK.take 4 rfl (by decide +kernel) (by decide +kernel) (by decide +kernel) rfl (fun _ _ _ h => h) (fun L_ k1_ => V1.move' (by (conv => lhs; whnf) <;> rfl)) ?_
              refine TK.take 8 rfl (by decide +kernel) (by decide +kernel) (by decide +kernel) rfl (fun _ _ _ h => h) (fun L_ k1_ => V1.move' (by (conv => lhs; whnf) <;> rfl)) ?_
              refine TK.one 5 (by decide +kernel) rfl rfl (T1.callX (X := [(⟨bd, 0, [.slice (some ⟨ba, 0, none⟩) a.length a.length, .int .i64 pw], 2⟩ : Blk)]) has_20 rfl (room_any _ bd ba a.length pw hal) (by repeat (first | exact Take.nil | apply Take.one (by repeat (first | exact Pick.here | apply Pick.there | apply Pick.far)) | apply Take.seg (by repeat (first | exact PickS.last | exact PickS.one | exact PickS.here | exact PickS.nil | apply PickS.there | apply PickS.far)) | exact Take.last (by repeat (first | exact PickS.last | exact PickS.one | exact PickS.here | exact PickS.nil | apply PickS.there | apply PickS.far)))) (fun v Y hY => ?_))
              obtain ⟨rfl, rfl⟩ := hY
              simp only [List.cons_append, List.nil_append]
              rw [show a.length / 2 = r from by omega]
              refine ⟨(by repeat (first | exact Find.here | assumption | apply Find.there | apply Find.far)), ?_⟩
              refine TK.take 6 rfl (by decide +kernel) (by decide +kernel) (by decide +kernel) rfl (fun _ _ _ h => h) (fun L_ k1_ => V1.sliceTo r ty_33 sz_5 rfl rfl rfl (by omega) (Nat.le_refl _)) ?_
              refine TK.take 7 rfl (by decide +kernel) (by decide +kernel) (by decide +kernel) rfl (fun _ _ _ h => h) (fun L_ k1_ => V1.lenSl ty_33 rfl) ?_
              refine TD.done (by decide +kernel) ?_
              refine T.block ?_
              refine T.loopL (σ := Nat) (l0 := [(4, _), (60, _), (61, _)]) (fun x => [(62, .int .i64 (x : Nat))]) (fun k L => L = ⟨b13, 0, [.int .u64 0, .slice none 0 0, .pointer (some ⟨bd, 0, none⟩)], 3⟩ :: (⟨bd, 0, [.slice (some ⟨ba, 0, none⟩) a.length a.length, .int .i64 pw], 2⟩ : Blk) :: (⟨ba, 0, List.map byteV a, a.length⟩ : Blk) :: G ∧ k ≤ r ∧ (∀ y ∈ a.take k, y = 0)) (fun x => r - x) 0 (.cons rfl .nil) (.cons (by (conv => lhs; whnf) <;> rfl) (.cons (by (conv => lhs; whnf) <;> rfl) (.cons (by (conv => lhs; whnf) <;> rfl) .nil))) (by repeat (first | exact Take.nil | apply Take.one (by repeat (first | exact Pick.here | apply Pick.there | apply Pick.far)) | apply Take.seg (by repeat (first | exact PickS.last | exact PickS.one | exact PickS.here | exact PickS.nil | apply PickS.there | apply PickS.far)) | exact Take.last (by repeat (first | exact PickS.last | exact PickS.one | exact PickS.here | exact PickS.nil | apply PickS.there | apply PickS.far)))) (⟨rfl, Nat.zero_le _, by simp⟩) ?_
              rintro k e_ L ⟨rfl, hk, hz⟩
              refine T.seq ?_
              refine T.region ?_
              refine TL.cons rfl (T1.ltI_split rfl rfl (fun h12 => ?_) (fun h12 => ?_))
              ·
                obtain ⟨x, hx⟩ : ∃ z, a[k]? = some z := ⟨_, List.getElem?_eq_getElem (by omega)⟩
                refine TL.nil ?_
                refine T.seq ?_
                refine T.cond_t rfl ?_
                refine T.skip ?_
                refine T.seq ?_
                refine T.block ?_
                refine T.seq ?_
                refine T.region ?_
                refine TL.cons rfl (V1.t (V1.indexAddrS ty_33 sz_5 rfl rfl (by omega) (by omega)) ?_)
                refine TL.cons rfl (V1.t (V1.load1 one_5 rfl (show Rd _ _ ⟨ba, 0 + k * 1, none⟩ (byteV x) from by rw [Nat.mul_one]; exact Rd.at (cells := List.map byteV a) (by repeat (first | exact Find.here | assumption | apply Find.there | apply Find.far)) (by rw [List.getElem?_map, hx]; rfl))) ?_)
                refine TL.cons rfl (V1.t (V1.assign' (by (conv => lhs; whnf) <;> rfl)) ?_)
                refine TL.nil ?_
                refine T.seq ?_
                refine T.region ?_
                refine TL.cons rfl (V1.t (V1.move' (by (conv => lhs; whnf) <;> rfl)) ?_)
                refine TL.cons rfl (T1.neI_split rfl rfl (fun h14 => ?_) (fun h14 => ?_))
                ·
                  refine TL.nil ?_
                  refine T.cond_t rfl ?_
                  refine T.seq ?_
                  refine T.region ?_
                  refine TL.cons rfl (V1.t (V1.assign' (by (conv => lhs; whnf) <;> rfl)) ?_)
                  refine TL.cons rfl (V1.t (V1.assign' (by (conv => lhs; whnf) <;> rfl)) ?_)
                  refine TL.nil ?_
                  refine T.ret ?_
                  have hpx : plc r 0 a = a.take r := by unfold plc; rw [Nat.zero_mul, List.drop_zero]
                  exact ⟨_, (⟨bd, 0, [.slice (some ⟨ba, 0, none⟩) a.length a.length, .int .i64 pw], 2⟩ : Blk) :: (⟨ba, 0, List.map byteV a, a.length⟩ : Blk) :: G, _, .cons (.tmp (by (conv => lhs; whnf) <;> rfl)) (.cons (.tmp (by (conv => lhs; whnf) <;> rfl)) .nil), (by repeat (first | exact Take.nil | apply Take.one (by repeat (first | exact Pick.here | apply Pick.there | apply Pick.far)) | apply Take.seg (by repeat (first | exact PickS.last | exact PickS.one | exact PickS.here | exact PickS.nil | apply PickS.there | apply PickS.far)) | exact Take.last (by repeat (first | exact PickS.last | exact PickS.one | exact PickS.here | exact PickS.nil | apply PickS.there | apply PickS.far)))), [(⟨bd, 0, [.slice (some ⟨ba, 0, none⟩) a.length a.length, .int .i64 pw], 2⟩ : Blk), (⟨ba, 0, List.map byteV a, a.length⟩ : Blk)], rfl, by rw [openP_n hx0 hy1 (b := x) (by rw [hpx]; exact List.mem_of_getElem? (show (a.take r)[k]? = some x by rw [List.getElem?_take, if_pos (by omega)]; exact hx)) (by rintro rfl; exact h14 rfl)]; exact ⟨rfl, rfl⟩⟩
                ·
                  have hx00 : x = 0 := by apply UInt8.toNat_inj.1; show x.toNat = 0; omega
                  refine TL.nil ?_
                  refine T.cond_f rfl ?_
                  refine T.skip ?_
                  refine T.region ?_
                  refine TL.cons rfl (V1.t (V1.add rfl rfl (wrap_i64 _ (by omega) (by omega))) ?_)
                  refine TL.cons rfl (V1.t (V1.move' (by (conv => lhs; whnf) <;> rfl)) ?_)
                  refine TL.nil ?_
                  exact ⟨k + 1, _, _, (by simp only; omega), (.cons rfl .nil), (.cons rfl (.cons rfl (.cons rfl .nil))), (by repeat (first | exact Take.nil | apply Take.one (by repeat (first | exact Pick.here | apply Pick.there | apply Pick.far)) | apply Take.seg (by repeat (first | exact PickS.last | exact PickS.one | exact PickS.here | exact PickS.nil | apply PickS.there | apply PickS.far)) | exact Take.last (by repeat (first | exact PickS.last | exact PickS.one | exact PickS.here | exact PickS.nil | apply PickS.there | apply PickS.far)))), ⟨rfl, by omega, (all_take hx).2 ⟨hz, hx00⟩⟩⟩
              ·
                have hkr : k = r := by omega
                rw [hkr] at hz
                refine TL.nil ?_
                refine T.seq ?_
                refine T.cond_f rfl ?_
                refine T.exit ?_
                refine T.seq ?_
                refine T.region ?_
                refine TL.cons rfl (V1.t (V1.move' (by (conv => lhs; whnf) <;> rfl)) ?_)
                refine TL.cons rfl (V1.t (V1.assign' (by (conv => lhs; whnf) <;> rfl)) ?_)
                refine TL.cons rfl (V1.t (V1.assign' (by (conv => lhs; whnf) <;> rfl)) ?_)
                refine TL.nil ?_
                refine T.ret ?_
                have hpx : plc r 0 a = a.take r := by unfold plc; rw [Nat.zero_mul, List.drop_zero]
                exact ⟨_, ⟨b13, 0, [.int .u64 0, .slice none 0 0, .pointer (some ⟨bd, 0, none⟩)], 3⟩ :: (⟨bd, 0, [.slice (some ⟨ba, 0, none⟩) a.length a.length, .int .i64 pw], 2⟩ : Blk) :: (⟨ba, 0, List.map byteV a, a.length⟩ : Blk) :: G, _, .cons (.tmp (by (conv => lhs; whnf) <;> rfl)) (.cons (.tmp (by (conv => lhs; whnf) <;> rfl)) .nil), (by repeat (first | exact Take.nil | apply Take.one (by repeat (first | exact Pick.here | apply Pick.there | apply Pick.far)) | apply Take.seg (by repeat (first | exact PickS.last | exact PickS.one | exact PickS.here | exact PickS.nil | apply PickS.there | apply PickS.far)) | exact Take.last (by repeat (first | exact PickS.last | exact PickS.one | exact PickS.here | exact PickS.nil | apply PickS.there | apply PickS.far)))), [⟨b13, 0, [.int .u64 0, .slice none 0 0, .pointer (some ⟨bd, 0, none⟩)], 3⟩] ++ [(⟨bd, 0, [.slice (some ⟨ba, 0, none⟩) a.length a.length, .int .i64 pw], 2⟩ : Blk), (⟨ba, 0, List.map byteV a, a.length⟩ : Blk)], rfl, by rw [openP_0 hx0 hy1 (by rw [hpx]; first | exact hz | (have hall : ∀ y ∈ a, y = 0 := (by simpa using hc); exact fun y hy => hall y (List.mem_of_mem_take hy)))]; exact ⟨b13, [⟨b13, 0, [.int .u64 0, .slice none 0 0, .pointer (some ⟨bd, 0, none⟩)], 3⟩], rfl, ⟨_, [], rfl, Sl.nil⟩, rfl⟩⟩
            ·
              refine T.skip ?_
              refine T.seq ?_
              refine T.region ?_
              refine TL.cons rfl (V1.t (V1.move' (by (conv => lhs; whnf) <;> rfl)) ?_)
              refine TL.cons rfl (V1.t (V1.assign' (by (conv => lhs; whnf) <;> rfl)) ?_)
              refine TL.cons rfl (V1.t (V1.assign' (by (conv => lhs; whnf) <;> rfl)) ?_)
              refine TL.nil ?_
              refine T.ret ?_
              have hpx : plc r 0 a = a.take r := by unfold plc; rw [Nat.zero_mul, List.drop_zero]
              exact ⟨_, ⟨b13, 0, [.int .u64 0, .slice none 0 0, .pointer (some ⟨bd, 0, none⟩)], 3⟩ :: (⟨bd, 0, [.slice (some ⟨ba, 0, none⟩) a.length a.length, .int .i64 pw], 2⟩ : Blk) :: (⟨ba, 0, List.map byteV a, a.length⟩ : Blk) :: G, _, .cons (.tmp (by (conv => lhs; whnf) <;> rfl)) (.cons (.tmp (by (conv => lhs; whnf) <;> rfl)) .nil), (by repeat (first | exact Take.nil | apply Take.one (by repeat (first | exact Pick.here | apply Pick.there | apply Pick.far)) | apply Take.seg (by repeat (first | exact PickS.last | exact PickS.one | exact PickS.here | exact PickS.nil | apply PickS.there | apply PickS.far)) | exact Take.last (by repeat (first | exact PickS.last | exact PickS.one | exact PickS.here | exact PickS.nil | apply PickS.there | apply PickS.far)))), [⟨b13, 0, [.int .u64 0, .slice none 0 0, .pointer (some ⟨bd, 0, none⟩)], 3⟩] ++ [(⟨bd, 0, [.slice (some ⟨ba, 0, none⟩) a.length a.length, .int .i64 pw], 2⟩ : Blk), (⟨ba, 0, List.map byteV a, a.length⟩ : Blk)], rfl, by rw [openP_0 hx0 hy1 (by rw [hpx]; first | exact hz | (have hall : ∀ y ∈ a, y = 0 := (by simpa using hc); exact fun y hy => hall y (List.mem_of_mem_take hy)))]; exact ⟨b13, [⟨b13, 0, [.int .u64 0, .slice none 0 0, .pointer (some ⟨bd, 0, none⟩)], 3⟩], rfl, ⟨_, [], rfl, Sl.nil⟩, rfl⟩⟩

end Go.Proofs.Ytmolpgnekcfimaa.S
