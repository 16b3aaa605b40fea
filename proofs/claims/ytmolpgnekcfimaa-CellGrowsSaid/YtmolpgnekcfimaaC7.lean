/- Values kept one after the other are each had in their turn. -/
import Derived.Test.YtmolpgnekcfimaaC6
import Derived.Test.YtmolpgnekcfimaaOpsB
import Derived.Test.YtmolpgnekcfimaaOpen4
import Derived.Test.YtmolpgnekcfimaaOpen5
namespace Go.Proofs.Ytmolpgnekcfimaa.S
open Go.RowKit

open Sh
theorem PartsIn.at {P : Program} {w0 : World} {a : Option Addr} {n c : Nat} {svs : List Value} {ps : List (List UInt8)} (h : PartsIn w0 (.slice a n c) svs ps) {k : Nat} (hk : k < ps.length) :
    ∃ b o sv p, a = some ⟨b, o, none⟩ ∧ ps[k]? = some p ∧ InR w0 sv p ∧ ∀ C : Ctx, C.w0 = w0 → C.M = [] → ∀ L, Rd C L ⟨b, o + k * 1, none⟩ sv := by
  have hsrc : ∀ C : Ctx, C.w0 = w0 → C.M = [] → ∀ L, Src C L 1 (.slice a n c) ps.length svs := fun C h0 hm L => by subst h0; exact h.all.src hm
  have hl := h.len
  have hsv : svs[k]? = some svs[k] := List.getElem?_eq_getElem (by omega)
  have hp : ps[k]? = some ps[k] := List.getElem?_eq_getElem hk
  obtain ⟨b, o, rfl⟩ : ∃ b o, a = some ⟨b, o, none⟩ := by
    rcases (hsrc ⟨P, w0, [], 0⟩ rfl rfl []).inv _ _ _ rfl with h0 | ⟨b, o, h0, _⟩
    · omega
    · exact ⟨b, o, h0⟩
  refine ⟨b, o, svs[k], ps[k], rfl, hp, h.each k _ _ hsv hp, fun C h0 hm L => ?_⟩
  rcases (hsrc C h0 hm L).inv _ _ _ rfl with h0 | ⟨b', o', h0, hr⟩
  · omega
  · cases h0
    rw [Nat.mul_one]
    exact hr k _ hsv

set_option maxRecDepth 100000 in
set_option maxHeartbeats 4000000 in
theorem CellGrows_any (v0 v1 : Value) (svs : List Value) (ps : List (List UInt8)) (lb : List Bool) (w0 : World) (hp : PartsIn w0 v0 svs ps) (hpn : ps.length ≤ 9223372036854775807) (ho : SlR w0 v1 1 lb.length (lb.map Value.bool)) (hon : lb.length ≤ 9223372036854775807) : Fn P 3 [v0, v1] w0 [] (fun v _ => v = .bool true) := by
  obtain ⟨pa, pc, rfl⟩ := hp.form
  obtain ⟨oa, oc, rfl⟩ := ho.form
  refine Fn.of 100 [.tmp 4] Go.Proofs.Try.func3 rfl rfl rfl rfl ?_
  refine T.seq ?_
  refine T.region ?_
  refine TL.cons rfl (V1.t (V1.assign' (by (conv => lhs; whnf) <;> rfl)) ?_)
  refine TL.nil ?_
  refine T.seq ?_
  refine T.seq ?_
  refine T.region ?_
  refine TL.cons rfl (T1.call0 has_7 rfl (fun w hs => keeps_any w) (fun v hv => ?_))
  obtain rfl := hv
  refine TL.cons rfl (V1.t (V1.not rfl rfl) ?_)
  refine TL.nil ?_
  refine T.cond_f rfl ?_
  refine T.skip ?_
  refine T.seq ?_
  refine T.region ?_
  refine TL.cons rfl (T1.callN has_8 rfl (fun w hs => NewDiskD 200 w (by decide) (by decide)) (fun v Y hY => ?_))
  obtain ⟨bd, ba, a, rfl, hd, -, rfl⟩ := hY
  have ha2 : a.length = 2 * 200 := hd.1
  have hal : a.length ≤ 1000000 := by omega
  simp only [List.cons_append, List.nil_append]
  refine TL.cons rfl (V1.t (V1.move' (by (conv => lhs; whnf) <;> rfl)) ?_)
  refine TL.cons rfl (V1.t (V1.extract rfl (by rfl)) ?_)
  refine TL.cons rfl (V1.t (V1.extract rfl (by rfl)) ?_)
  refine TL.cons rfl (V1.t (V1.assign' (by (conv => lhs; whnf) <;> rfl)) ?_)
  refine TL.cons rfl (V1.t (V1.assign' (by (conv => lhs; whnf) <;> rfl)) ?_)
  refine TL.nil ?_
  refine T.seq ?_
  refine T.seq ?_
  refine T.region ?_
  refine TL.cons rfl (V1.t (V1.move' (by (conv => lhs; whnf) <;> rfl)) ?_)
  refine TL.cons rfl (V1.t (V1.eqNil ty_25 rfl rfl) ?_)
  refine TL.cons rfl (V1.t (V1.move' (by (conv => lhs; whnf) <;> rfl)) ?_)
  refine TL.cons rfl (V1.t (V1.move' (by (conv => lhs; whnf) <;> rfl)) ?_)
  refine TL.cons rfl (V1.t (V1.lenSl ty_22 rfl) ?_)
  refine TL.cons rfl (T1.gtI_split rfl rfl (fun h4 => ?_) (fun h4 => ?_))
  ·
    refine TL.cons rfl (V1.t (V1.pick rfl (by (conv => lhs; whnf) <;> rfl)) ?_)
    refine TL.nil ?_
    refine T.cond_t rfl ?_
    refine T.seq ?_
    refine T.live (l := [(5, _)]) (.cons (by (conv => lhs; whnf) <;> rfl) .nil) (fun e_ => ?_)
    refine T.region ?_
    refine TL.cons rfl (V1.t (V1.move' (by (conv => lhs; whnf) <;> rfl)) ?_)
    refine TL.cons rfl (V1.t (V1.neNil ty_25 rfl rfl) ?_)
    refine TL.cons rfl (V1.t (V1.assign' (by (conv => lhs; whnf) <;> rfl)) ?_)
    refine TL.nil ?_
    refine T.ret ?_
    exact ⟨_, [], _, .cons (.tmp (by (conv => lhs; whnf) <;> rfl)) .nil, Take.nil, rfl⟩
  ·
    refine TL.cons rfl (V1.t (V1.pick rfl (by (conv => lhs; whnf) <;> rfl)) ?_)
    refine TL.nil ?_
    refine T.cond_f rfl ?_
    refine T.skip ?_
    refine T.seq ?_
    refine T.live (l := [(0, _), (1, _), (5, _)]) (.cons (by (conv => lhs; whnf) <;> rfl) (.cons (by (conv => lhs; whnf) <;> rfl) (.cons (by (conv => lhs; whnf) <;> rfl) .nil))) (fun e_ => ?_)
    refine T.region ?_
    refine TL.cons rfl (V1.t (V1.move' (by (conv => lhs; whnf) <;> rfl)) ?_)
    refine TL.cons rfl (T1.callX (X := [(⟨bd, 0, [.slice (some ⟨ba, 0, none⟩) a.length a.length, .int .i64 (-1)], 2⟩ : Blk), (⟨ba, 0, List.map byteV a, a.length⟩ : Blk)]) has_9 rfl (OpenD _ bd ba 200 0 [] a (-1) hd (by decide) (by decide) (by omega) (by first | omega | decide)) (by repeat (first | exact Take.nil | apply Take.one (by repeat (first | exact Pick.here | apply Pick.there | apply Pick.far)) | apply Take.seg (by repeat (first | exact PickS.last | exact PickS.one | exact PickS.here | exact PickS.nil | apply PickS.there | apply PickS.far)) | exact Take.last (by repeat (first | exact PickS.last | exact PickS.one | exact PickS.here | exact PickS.nil | apply PickS.there | apply PickS.far)))) (fun v_ Y_ hY => ?_))
    obtain ⟨bc, Z, rfl, hc, rfl⟩ := hY
    simp only [List.append_assoc, List.cons_append, List.nil_append]
    refine TL.cons rfl (V1.t (V1.move' (by (conv => lhs; whnf) <;> rfl)) ?_)
    refine TL.cons rfl (V1.t (V1.extract rfl (by rfl)) ?_)
    refine TL.cons rfl (V1.t (V1.extract rfl (by rfl)) ?_)
    refine TL.cons rfl (V1.t (V1.assign' (by (conv => lhs; whnf) <;> rfl)) ?_)
    refine TL.cons rfl (V1.t (V1.assign' (by (conv => lhs; whnf) <;> rfl)) ?_)
    refine TL.nil ?_
    refine T.seq ?_
    refine T.seq ?_
    refine T.region ?_
    refine TL.cons rfl (V1.t (V1.move' (by (conv => lhs; whnf) <;> rfl)) ?_)
    refine TL.cons rfl (V1.t (V1.eqNil ty_29 rfl rfl) ?_)
    refine TL.nil ?_
    refine T.cond_f rfl ?_
    refine T.skip ?_
    refine T.seq ?_
    refine T.region ?_
    refine TL.cons rfl (V1.t (V1.assign' (by (conv => lhs; whnf) <;> rfl)) ?_)
    refine TL.cons rfl (V1.t (V1.assign' (by (conv => lhs; whnf) <;> rfl)) ?_)
    refine TL.nil ?_
    refine T.seq ?_
    refine T.seq ?_
    refine T.region ?_
    refine TL.cons rfl (V1.t (V1.move' (by (conv => lhs; whnf) <;> rfl)) ?_)
    refine TL.cons rfl (V1.t (V1.lenSl ty_22 rfl) ?_)
    refine TL.cons rfl (V1.t (V1.move' (by (conv => lhs; whnf) <;> rfl)) ?_)
    refine TL.nil ?_
    refine T.block ?_
    refine T.loopL (σ := Nat × Nat × List UInt8 × Nat × List Blk × List UInt8) (l0 := [(1, _), (5, _), (36, _), (37, _)]) (fun x => [(38, .int .i64 (x.1 : Nat)), (7, .pointer (some ⟨x.2.2.2.1, 0, none⟩)), (9, .string (bstr x.2.2.1)), (10, .int .u64 (x.2.1 : Nat))]) (fun x L => L = x.2.2.2.2.1 ++ ((⟨bd, 0, [.slice (some ⟨ba, 0, none⟩) x.2.2.2.2.2.length x.2.2.2.2.2.length, .int .i64 (-1)], 2⟩ : Blk) :: (⟨ba, 0, List.map byteV x.2.2.2.2.2, x.2.2.2.2.2.length⟩ : Blk) :: []) ∧ Cl x.2.2.2.1 bd x.2.1 x.2.2.1 x.2.2.2.2.1 ∧ DiskOf 200 x.2.1 x.2.2.1 x.2.2.2.2.2 ∧ x.1 ≤ ps.length ∧ x.2.1 ≤ x.1 ∧ x.2.2.1.length ≤ 156) (fun x => ps.length - x.1) (0, 0, [], bc, Z, a) (.cons rfl (.cons rfl (.cons rfl (.cons rfl .nil)))) (.cons (by (conv => lhs; whnf) <;> rfl) (.cons (by (conv => lhs; whnf) <;> rfl) (.cons (by (conv => lhs; whnf) <;> rfl) (.cons (by (conv => lhs; whnf) <;> rfl) .nil)))) (by repeat (first | exact Take.nil | apply Take.one (by repeat (first | exact Pick.here | apply Pick.there | apply Pick.far)) | apply Take.seg (by repeat (first | exact PickS.last | exact PickS.one | exact PickS.here | exact PickS.nil | apply PickS.there | apply PickS.far)) | exact Take.last (by repeat (first | exact PickS.last | exact PickS.one | exact PickS.here | exact PickS.nil | apply PickS.there | apply PickS.far)))) (⟨(rfl : Z ++ ((⟨bd, 0, [.slice (some ⟨ba, 0, none⟩) a.length a.length, .int .i64 (-1)], 2⟩ : Blk) :: (⟨ba, 0, List.map byteV a, a.length⟩ : Blk) :: []) = _), hc, hd, Nat.zero_le _, Nat.le_refl _, Nat.zero_le _⟩) ?_
    clear hal ha2 hd hc
    clear bc Z a
    rintro ⟨k, n, last, bc, Z, a⟩ e_ L ⟨rfl, hc, hd, hk, hn, hl⟩
    simp only at hc hd hk hn hl
    have ha2 : a.length = 2 * 200 := hd.1
    refine T.seq ?_
    refine T.region ?_
    refine TL.cons rfl (T1.ltI_split rfl rfl (fun h11 => ?_) (fun h11 => ?_))
    ·
      obtain ⟨pb_, po_, sv, p, rfl, hpk, hin, hrd⟩ := hp.at (P := P) (k := k) (by omega)
      obtain ⟨sa, sc, rfl⟩ := hin.form
      refine TL.nil ?_
      refine T.seq ?_
      refine T.cond_t rfl ?_
      refine T.skip ?_
      refine T.seq ?_
      refine T.block ?_
      refine T.seq ?_
      refine T.region ?_
      refine TL.cons rfl (V1.t (V1.move' (by (conv => lhs; whnf) <;> rfl)) ?_)
      refine TL.cons rfl (V1.t (V1.indexAddrS ty_22 sz_33 rfl rfl (by omega) (by omega)) ?_)
      refine TL.cons rfl (V1.t (V1.load1 one_33 rfl (hrd _ rfl rfl _)) ?_)
      refine TL.cons rfl (V1.t (V1.assign' (by (conv => lhs; whnf) <;> rfl)) ?_)
      refine TL.cons rfl (V1.t (V1.assign' (by (conv => lhs; whnf) <;> rfl)) ?_)
      refine TL.nil ?_
      refine T.seq ?_
      refine T.region ?_
      refine TL.cons rfl (V1.t (V1.move' (by (conv => lhs; whnf) <;> rfl)) ?_)
      refine TL.cons rfl (V1.t (V1.move' (by (conv => lhs; whnf) <;> rfl)) ?_)
      refine TL.cons rfl (T1.buildSl1 (os := [.tmp 44]) (vs := [.slice sa p.length sc]) ty_22 sz_33 zr_33 (by decide) rfl (.cons rfl .nil) rfl (ones rfl) (fun b45 => ?_))
      refine TL.cons rfl (T1.callX (X := Z ++ ((⟨bd, 0, [.slice (some ⟨ba, 0, none⟩) a.length a.length, .int .i64 (-1)], 2⟩ : Blk) :: (⟨ba, 0, List.map byteV a, a.length⟩ : Blk) :: [(⟨b45, 0, [.slice sa p.length sc], 1⟩ : Blk)])) has_10 rfl (KeepD _ bc bd ba 200 n _ last a [p] Z [(⟨b45, 0, [.slice sa p.length sc], 1⟩ : Blk)] hc hd (by omega) (PartsR.ones (svs := [.slice sa p.length sc]) (size := 1) (List.mem_cons_self ..) rfl (one_part hin.part)) (show 1 ≤ 9223372036854775807 by decide) (by decide) (by decide)) (by repeat (first | exact Take.nil | apply Take.one (by repeat (first | exact Pick.here | apply Pick.there | apply Pick.far)) | apply Take.seg (by repeat (first | exact PickS.last | exact PickS.one | exact PickS.here | exact PickS.nil | apply PickS.there | apply PickS.far)) | exact Take.last (by repeat (first | exact PickS.last | exact PickS.one | exact PickS.here | exact PickS.nil | apply PickS.there | apply PickS.far)))) (fun v_ Y_ hY => ?_))
      rw [show ([p] : List (List UInt8)).flatten = p from by simp] at hY
      rcases hY with ⟨hpl, rfl, rfl⟩ | ⟨hpl, rfl, Z', a', ha', hd', hc', rfl⟩ <;> simp only [List.append_assoc, List.cons_append, List.nil_append]
      ·
        refine TL.cons rfl (V1.t (V1.assign' (by (conv => lhs; whnf) <;> rfl)) ?_)
        refine TL.nil ?_
        refine T.seq ?_
        refine T.seq ?_
        refine T.region ?_
        refine TL.cons rfl (V1.t (V1.move' (by (conv => lhs; whnf) <;> rfl)) ?_)
        refine TL.cons rfl (V1.t (V1.eqI rfl rfl (decide_eq_false (by omega))) ?_)
        refine TL.cons rfl (V1.t (V1.move' (by (conv => lhs; whnf) <;> rfl)) ?_)
        refine TL.cons rfl (V1.t (V1.lenSl ty_33 rfl) ?_)
        refine TL.cons rfl (V1.t (V1.leI rfl rfl (decide_eq_false (by omega))) ?_)
        refine TL.cons rfl (V1.t (V1.neB ty_4 rfl rfl rfl) ?_)
        refine TL.cons rfl (V1.t (V1.move' (by (conv => lhs; whnf) <;> rfl)) ?_)
        refine TL.cons rfl (V1.t (V1.move' (by (conv => lhs; whnf) <;> rfl)) ?_)
        refine TL.cons rfl (V1.t (V1.neI rfl rfl (decide_eq_true (by omega))) ?_)
        refine TL.cons rfl (V1.t (V1.move' (by (conv => lhs; whnf) <;> rfl)) ?_)
        refine TL.cons rfl (V1.t (V1.move' (by (conv => lhs; whnf) <;> rfl)) ?_)
        refine TL.cons rfl (V1.t (V1.neI rfl rfl (decide_eq_false (by omega))) ?_)
        refine TL.cons rfl (V1.t (V1.pick rfl (by (conv => lhs; whnf) <;> rfl)) ?_)
        refine TL.cons rfl (V1.t (V1.pick rfl (by (conv => lhs; whnf) <;> rfl)) ?_)
        refine TL.nil ?_
        refine T.cond_f rfl ?_
        refine T.skip ?_
        refine T.cut (σ := Nat × List UInt8 × List Blk × List UInt8) (l0 := [(1, _), (5, _), (7, _), (11, _), (36, _), (37, _), (38, _)]) (fun x => [(9, .string (bstr x.2.1)), (10, .int .u64 (x.1 : Nat))]) (fun x L => L = x.2.2.1 ++ ((⟨bd, 0, [.slice (some ⟨ba, 0, none⟩) x.2.2.2.length x.2.2.2.length, .int .i64 (-1)], 2⟩ : Blk) :: (⟨ba, 0, List.map byteV x.2.2.2, x.2.2.2.length⟩ : Blk) :: []) ∧ Cl bc bd x.1 x.2.1 x.2.2.1 ∧ DiskOf 200 x.1 x.2.1 x.2.2.2 ∧ x.1 ≤ k + 1 ∧ x.2.1.length ≤ 156 ∧ k < ps.length) (.cons (by (conv => lhs; whnf) <;> rfl) (.cons (by (conv => lhs; whnf) <;> rfl) (.cons (by (conv => lhs; whnf) <;> rfl) (.cons (by (conv => lhs; whnf) <;> rfl) (.cons (by (conv => lhs; whnf) <;> rfl) (.cons (by (conv => lhs; whnf) <;> rfl) (.cons (by (conv => lhs; whnf) <;> rfl) .nil))))))) ?_ ?_
        ·
          refine T.seq ?_
          refine T.live (l := [(1, _), (5, _), (7, _), (9, _), (10, _), (11, _), (12, _), (13, _), (36, _), (37, _), (38, _)]) (.cons (by (conv => lhs; whnf) <;> rfl) (.cons (by (conv => lhs; whnf) <;> rfl) (.cons (by (conv => lhs; whnf) <;> rfl) (.cons (by (conv => lhs; whnf) <;> rfl) (.cons (by (conv => lhs; whnf) <;> rfl) (.cons (by (conv => lhs; whnf) <;> rfl) (.cons (by (conv => lhs; whnf) <;> rfl) (.cons (by (conv => lhs; whnf) <;> rfl) (.cons (by (conv => lhs; whnf) <;> rfl) (.cons (by (conv => lhs; whnf) <;> rfl) (.cons (by (conv => lhs; whnf) <;> rfl) .nil))))))))))) (fun e_ => ?_)
          refine T.region ?_
          refine TL.cons rfl (V1.t (V1.move' (by (conv => lhs; whnf) <;> rfl)) ?_)
          refine TL.cons rfl (V1.t (V1.eqI rfl rfl (decide_eq_false (by omega))) ?_)
          refine TL.nil ?_
          refine T.cond_f rfl ?_
          refine T.skip ?_
          exact ⟨(n, last, Z, a), _, _, trivial, (.cons rfl (.cons rfl .nil)), (.cons rfl (.cons rfl (.cons rfl (.cons rfl (.cons rfl (.cons rfl (.cons rfl .nil))))))), (by repeat (first | exact Take.nil | apply Take.one (by repeat (first | exact Pick.here | apply Pick.there | apply Pick.far)) | apply Take.seg (by repeat (first | exact PickS.last | exact PickS.one | exact PickS.here | exact PickS.nil | apply PickS.there | apply PickS.far)) | exact Take.last (by repeat (first | exact PickS.last | exact PickS.one | exact PickS.here | exact PickS.nil | apply PickS.there | apply PickS.far)))), ⟨rfl, hc, hd, by simp only; omega, hl, by omega⟩⟩
        ·
          rintro ⟨n2, l2, Z2, a2⟩ e_ L ⟨rfl, hc2, hd2, hn2, hl2, hkp⟩
          simp only at hc2 hd2 hn2 hl2
          have ha22 : a2.length = 2 * 200 := hd2.1
          refine T.cut (σ := Nat × List Blk) (l0 := [(1, _), (5, _), (9, _), (10, _), (36, _), (37, _), (38, _)]) (fun x => [(7, .pointer (some ⟨x.1, 0, none⟩))]) (fun x L => L = x.2 ++ ((⟨bd, 0, [.slice (some ⟨ba, 0, none⟩) a2.length a2.length, .int .i64 (-1)], 2⟩ : Blk) :: (⟨ba, 0, List.map byteV a2, a2.length⟩ : Blk) :: []) ∧ Cl x.1 bd n2 l2 x.2) (.cons (by (conv => lhs; whnf) <;> rfl) (.cons (by (conv => lhs; whnf) <;> rfl) (.cons (by (conv => lhs; whnf) <;> rfl) (.cons (by (conv => lhs; whnf) <;> rfl) (.cons (by (conv => lhs; whnf) <;> rfl) (.cons (by (conv => lhs; whnf) <;> rfl) (.cons (by (conv => lhs; whnf) <;> rfl) .nil))))))) ?_ ?_
          ·
            refine T.seq ?_
            refine T.live (l := [(1, _), (5, _), (7, _), (9, _), (10, _), (11, _), (36, _), (37, _), (38, _)]) (.cons (by (conv => lhs; whnf) <;> rfl) (.cons (by (conv => lhs; whnf) <;> rfl) (.cons (by (conv => lhs; whnf) <;> rfl) (.cons (by (conv => lhs; whnf) <;> rfl) (.cons (by (conv => lhs; whnf) <;> rfl) (.cons (by (conv => lhs; whnf) <;> rfl) (.cons (by (conv => lhs; whnf) <;> rfl) (.cons (by (conv => lhs; whnf) <;> rfl) (.cons (by (conv => lhs; whnf) <;> rfl) .nil))))))))) (fun e_ => ?_)
            refine T.region ?_
            refine TL.cons rfl (V1.t (V1.move' (by (conv => lhs; whnf) <;> rfl)) ?_)
            refine TL.cons rfl (V1.t (V1.move' (by (conv => lhs; whnf) <;> rfl)) ?_)
            refine TL.cons rfl (V1.t (V1.lenSl ty_23 rfl) ?_)
            refine TL.cons rfl (T1.ltI_split rfl rfl (fun h19 => ?_) (fun h19 => ?_))
            ·
              obtain ⟨x, hx⟩ : ∃ z, lb[k]? = some z := ⟨_, List.getElem?_eq_getElem (by omega)⟩
              obtain ⟨qb, qo, rfl⟩ := ho.isSome (by omega)
              refine TL.cons rfl (V1.t (V1.move' (by (conv => lhs; whnf) <;> rfl)) ?_)
              refine TL.cons rfl (V1.t (V1.move' (by (conv => lhs; whnf) <;> rfl)) ?_)
              refine TL.cons rfl (V1.t (V1.move' (by (conv => lhs; whnf) <;> rfl)) ?_)
              refine TL.cons rfl (V1.t (V1.indexAddrS ty_23 sz_4 rfl rfl (by omega) (by omega)) ?_)
              refine TL.cons rfl (V1.t (V1.load1 (v := .bool x) one_4 rfl (ho.cell rfl (by rw [List.getElem?_map, Int.toNat_natCast, hx]; rfl))) ?_)
              cases x
              ·
                refine TL.cons rfl (V1.t (V1.pick rfl (by (conv => lhs; whnf) <;> rfl)) ?_)
                refine TL.nil ?_
                refine T.cond_f rfl ?_
                refine T.skip ?_
                exact ⟨(bc, Z2), _, _, trivial, (.cons rfl .nil), (.cons rfl (.cons rfl (.cons rfl (.cons rfl (.cons rfl (.cons rfl (.cons rfl .nil))))))), (by repeat (first | exact Take.nil | apply Take.one (by repeat (first | exact Pick.here | apply Pick.there | apply Pick.far)) | apply Take.seg (by repeat (first | exact PickS.last | exact PickS.one | exact PickS.here | exact PickS.nil | apply PickS.there | apply PickS.far)) | exact Take.last (by repeat (first | exact PickS.last | exact PickS.one | exact PickS.here | exact PickS.nil | apply PickS.there | apply PickS.far)))), ⟨rfl, hc2⟩⟩
              ·
                refine TL.cons rfl (V1.t (V1.pick rfl (by (conv => lhs; whnf) <;> rfl)) ?_)
                refine TL.nil ?_
                refine T.cond_t rfl ?_
                refine T.seq ?_
                refine T.region ?_
                refine TL.cons rfl (V1.t (V1.move' (by (conv => lhs; whnf) <;> rfl)) ?_)
                refine TL.cons rfl (T1.callX (X := [(⟨bd, 0, [.slice (some ⟨ba, 0, none⟩) a2.length a2.length, .int .i64 (-1)], 2⟩ : Blk), (⟨ba, 0, List.map byteV a2, a2.length⟩ : Blk)]) has_9 rfl (OpenD _ bd ba 200 n2 l2 a2 (-1) hd2 (by decide) (by decide) (by omega) (by first | omega | decide)) (by repeat (first | exact Take.nil | apply Take.one (by repeat (first | exact Pick.here | apply Pick.there | apply Pick.far)) | apply Take.seg (by repeat (first | exact PickS.last | exact PickS.one | exact PickS.here | exact PickS.nil | apply PickS.there | apply PickS.far)) | exact Take.last (by repeat (first | exact PickS.last | exact PickS.one | exact PickS.here | exact PickS.nil | apply PickS.there | apply PickS.far)))) (fun v_ Y_ hY => ?_))
                obtain ⟨bc3, Z3, rfl, hc3, rfl⟩ := hY
                simp only [List.append_assoc, List.cons_append, List.nil_append]
                refine TL.cons rfl (V1.t (V1.move' (by (conv => lhs; whnf) <;> rfl)) ?_)
                refine TL.cons rfl (V1.t (V1.extract rfl (by rfl)) ?_)
                refine TL.cons rfl (V1.t (V1.extract rfl (by rfl)) ?_)
                refine TL.cons rfl (V1.t (V1.assign' (by (conv => lhs; whnf) <;> rfl)) ?_)
                refine TL.cons rfl (V1.t (V1.assign' (by (conv => lhs; whnf) <;> rfl)) ?_)
                refine TL.nil ?_
                refine T.seq ?_
                refine T.live (l := [(1, _), (5, _), (7, _), (9, _), (10, _), (13, _), (36, _), (37, _), (38, _)]) (.cons (by (conv => lhs; whnf) <;> rfl) (.cons (by (conv => lhs; whnf) <;> rfl) (.cons (by (conv => lhs; whnf) <;> rfl) (.cons (by (conv => lhs; whnf) <;> rfl) (.cons (by (conv => lhs; whnf) <;> rfl) (.cons (by (conv => lhs; whnf) <;> rfl) (.cons (by (conv => lhs; whnf) <;> rfl) (.cons (by (conv => lhs; whnf) <;> rfl) (.cons (by (conv => lhs; whnf) <;> rfl) .nil))))))))) (fun e_ => ?_)
                refine T.region ?_
                refine TL.cons rfl (V1.t (V1.move' (by (conv => lhs; whnf) <;> rfl)) ?_)
                refine TL.cons rfl (V1.t (V1.eqNil ty_29 rfl rfl) ?_)
                refine TL.cons rfl (V1.t (V1.move' (by (conv => lhs; whnf) <;> rfl)) ?_)
                refine TL.cons rfl (V1.t (V1.move' (by (conv => lhs; whnf) <;> rfl)) ?_)
                refine TL.cons rfl (V1.t (V1.neI rfl rfl (decide_eq_false (by omega))) ?_)
                refine TL.cons rfl (V1.t (V1.pick rfl (by (conv => lhs; whnf) <;> rfl)) ?_)
                refine TL.nil ?_
                refine T.cond_f rfl ?_
                refine T.skip ?_
                exact ⟨(bc3, Z3), _, _, trivial, (.cons rfl .nil), (.cons rfl (.cons rfl (.cons rfl (.cons rfl (.cons rfl (.cons rfl (.cons rfl .nil))))))), (by repeat (first | exact Take.nil | apply Take.one (by repeat (first | exact Pick.here | apply Pick.there | apply Pick.far)) | apply Take.seg (by repeat (first | exact PickS.last | exact PickS.one | exact PickS.here | exact PickS.nil | apply PickS.there | apply PickS.far)) | exact Take.last (by repeat (first | exact PickS.last | exact PickS.one | exact PickS.here | exact PickS.nil | apply PickS.there | apply PickS.far)))), ⟨rfl, hc3⟩⟩
            ·
              refine TL.cons rfl (V1.t (V1.move' (by (conv => lhs; whnf) <;> rfl)) ?_)
              refine TL.no rfl ?_
              refine TL.no rfl ?_
              refine TL.no rfl ?_
              refine TL.no rfl ?_
              refine TL.cons rfl (V1.t (V1.pick rfl (by (conv => lhs; whnf) <;> rfl)) ?_)
              refine TL.nil ?_
              refine T.cond_f rfl ?_
              refine T.skip ?_
              exact ⟨(bc, Z2), _, _, trivial, (.cons rfl .nil), (.cons rfl (.cons rfl (.cons rfl (.cons rfl (.cons rfl (.cons rfl (.cons rfl .nil))))))), (by repeat (first | exact Take.nil | apply Take.one (by repeat (first | exact Pick.here | apply Pick.there | apply Pick.far)) | apply Take.seg (by repeat (first | exact PickS.last | exact PickS.one | exact PickS.here | exact PickS.nil | apply PickS.there | apply PickS.far)) | exact Take.last (by repeat (first | exact PickS.last | exact PickS.one | exact PickS.here | exact PickS.nil | apply PickS.there | apply PickS.far)))), ⟨rfl, hc2⟩⟩
          ·
            rintro ⟨bc4, Z4⟩ e_ L ⟨rfl, hc4⟩
            simp only at hc4
            refine T.seq ?_
            refine T.live (l := [(1, _), (5, _), (7, _), (9, _), (10, _), (36, _), (37, _), (38, _)]) (.cons (by (conv => lhs; whnf) <;> rfl) (.cons (by (conv => lhs; whnf) <;> rfl) (.cons (by (conv => lhs; whnf) <;> rfl) (.cons (by (conv => lhs; whnf) <;> rfl) (.cons (by (conv => lhs; whnf) <;> rfl) (.cons (by (conv => lhs; whnf) <;> rfl) (.cons (by (conv => lhs; whnf) <;> rfl) (.cons (by (conv => lhs; whnf) <;> rfl) .nil)))))))) (fun e_ => ?_)
            refine T.region ?_
            refine TL.cons rfl (V1.t (V1.move' (by (conv => lhs; whnf) <;> rfl)) ?_)
            refine TL.cons rfl (T1.callX (X := Z4) has_11 rfl (Value_any _ bc4 bd n2 l2 Z4 hc4 (by first | omega | decide)) (by repeat (first | exact Take.nil | apply Take.one (by repeat (first | exact Pick.here | apply Pick.there | apply Pick.far)) | apply Take.seg (by repeat (first | exact PickS.last | exact PickS.one | exact PickS.here | exact PickS.nil | apply PickS.there | apply PickS.far)) | exact Take.last (by repeat (first | exact PickS.last | exact PickS.one | exact PickS.here | exact PickS.nil | apply PickS.there | apply PickS.far)))) (fun v_ Y_ hY => ?_))
            obtain ⟨Lz, rfl, hsz⟩ := hY
            simp only [List.append_assoc, List.cons_append, List.nil_append]
            refine TL.cons rfl (V1.t (V1.slToStr ty_33 ty_5 ty_9 rfl hsz (by repeat (first | exact Sub.here | exact Sub.last | apply Sub.there | apply Sub.far))) ?_)
            refine TL.cons rfl (V1.t (V1.move' (by (conv => lhs; whnf) <;> rfl)) ?_)
            refine TL.cons rfl (V1.t (V1.neS (r := false) rfl rfl (by simp)) ?_)
            refine TL.cons rfl (V1.t (V1.move' (by (conv => lhs; whnf) <;> rfl)) ?_)
            refine TL.cons rfl (V1.t (V1.move' (by (conv => lhs; whnf) <;> rfl)) ?_)
            refine TL.cons rfl (T1.callX (X := Z4) has_12 rfl (Number_any _ bc4 bd n2 l2 Z4 hc4) (by repeat (first | exact Take.nil | apply Take.one (by repeat (first | exact Pick.here | apply Pick.there | apply Pick.far)) | apply Take.seg (by repeat (first | exact PickS.last | exact PickS.one | exact PickS.here | exact PickS.nil | apply PickS.there | apply PickS.far)) | exact Take.last (by repeat (first | exact PickS.last | exact PickS.one | exact PickS.here | exact PickS.nil | apply PickS.there | apply PickS.far)))) (fun v_ Y_ hY => ?_))
            obtain ⟨rfl, hzz⟩ := hY
            rw [hzz]
            refine TL.cons rfl (V1.t (V1.move' (by (conv => lhs; whnf) <;> rfl)) ?_)
            refine TL.cons rfl (V1.t (V1.neI rfl rfl (decide_eq_false (by omega))) ?_)
            refine TL.cons rfl (V1.t (V1.pick rfl (by (conv => lhs; whnf) <;> rfl)) ?_)
            refine TL.nil ?_
            refine T.cond_f rfl ?_
            refine T.skip ?_
            refine T.region ?_
            refine TL.cons rfl (V1.t (V1.add rfl rfl (wrap_i64 _ (by omega) (by omega))) ?_)
            refine TL.cons rfl (V1.t (V1.move' (by (conv => lhs; whnf) <;> rfl)) ?_)
            refine TL.nil ?_
            exact ⟨(k + 1, n2, l2, bc4, Z4, a2), _, _, (by simp only; omega), (.cons rfl (.cons rfl (.cons rfl (.cons rfl .nil)))), (.cons rfl (.cons rfl (.cons rfl (.cons rfl .nil)))), (by repeat (first | exact Take.nil | apply Take.one (by repeat (first | exact Pick.here | apply Pick.there | apply Pick.far)) | apply Take.seg (by repeat (first | exact PickS.last | exact PickS.one | exact PickS.here | exact PickS.nil | apply PickS.there | apply PickS.far)) | exact Take.last (by repeat (first | exact PickS.last | exact PickS.one | exact PickS.here | exact PickS.nil | apply PickS.there | apply PickS.far)))), ⟨rfl, hc4, hd2, by simp only; omega, by simp only; omega, hl2⟩⟩
      ·
        refine TL.cons rfl (V1.t (V1.assign' (by (conv => lhs; whnf) <;> rfl)) ?_)
        refine TL.nil ?_
        refine T.seq ?_
        refine T.seq ?_
        refine T.region ?_
        refine TL.cons rfl (V1.t (V1.move' (by (conv => lhs; whnf) <;> rfl)) ?_)
        refine TL.cons rfl (V1.t (V1.eqI rfl rfl (decide_eq_true (by omega))) ?_)
        refine TL.cons rfl (V1.t (V1.move' (by (conv => lhs; whnf) <;> rfl)) ?_)
        refine TL.cons rfl (V1.t (V1.lenSl ty_33 rfl) ?_)
        refine TL.cons rfl (V1.t (V1.leI rfl rfl (decide_eq_true (by omega))) ?_)
        refine TL.cons rfl (V1.t (V1.neB ty_4 rfl rfl rfl) ?_)
        refine TL.cons rfl (V1.t (V1.move' (by (conv => lhs; whnf) <;> rfl)) ?_)
        refine TL.cons rfl (V1.t (V1.move' (by (conv => lhs; whnf) <;> rfl)) ?_)
        refine TL.cons rfl (V1.t (V1.neI rfl rfl (decide_eq_false (by omega))) ?_)
        refine TL.cons rfl (V1.t (V1.move' (by (conv => lhs; whnf) <;> rfl)) ?_)
        refine TL.no rfl ?_
        refine TL.no rfl ?_
        refine TL.cons rfl (V1.t (V1.pick rfl (by (conv => lhs; whnf) <;> rfl)) ?_)
        refine TL.cons rfl (V1.t (V1.pick rfl (by (conv => lhs; whnf) <;> rfl)) ?_)
        refine TL.nil ?_
        refine T.cond_f rfl ?_
        refine T.skip ?_
        refine T.cut (σ := Nat × List UInt8 × List Blk × List UInt8) (l0 := [(1, _), (5, _), (7, _), (11, _), (36, _), (37, _), (38, _)]) (fun x => [(9, .string (bstr x.2.1)), (10, .int .u64 (x.1 : Nat))]) (fun x L => L = x.2.2.1 ++ ((⟨bd, 0, [.slice (some ⟨ba, 0, none⟩) x.2.2.2.length x.2.2.2.length, .int .i64 (-1)], 2⟩ : Blk) :: (⟨ba, 0, List.map byteV x.2.2.2, x.2.2.2.length⟩ : Blk) :: []) ∧ Cl bc bd x.1 x.2.1 x.2.2.1 ∧ DiskOf 200 x.1 x.2.1 x.2.2.2 ∧ x.1 ≤ k + 1 ∧ x.2.1.length ≤ 156 ∧ k < ps.length) (.cons (by (conv => lhs; whnf) <;> rfl) (.cons (by (conv => lhs; whnf) <;> rfl) (.cons (by (conv => lhs; whnf) <;> rfl) (.cons (by (conv => lhs; whnf) <;> rfl) (.cons (by (conv => lhs; whnf) <;> rfl) (.cons (by (conv => lhs; whnf) <;> rfl) (.cons (by (conv => lhs; whnf) <;> rfl) .nil))))))) ?_ ?_
        ·
          refine T.seq ?_
          refine T.live (l := [(1, _), (5, _), (7, _), (9, _), (10, _), (11, _), (12, _), (13, _), (36, _), (37, _), (38, _)]) (.cons (by (conv => lhs; whnf) <;> rfl) (.cons (by (conv => lhs; whnf) <;> rfl) (.cons (by (conv => lhs; whnf) <;> rfl) (.cons (by (conv => lhs; whnf) <;> rfl) (.cons (by (conv => lhs; whnf) <;> rfl) (.cons (by (conv => lhs; whnf) <;> rfl) (.cons (by (conv => lhs; whnf) <;> rfl) (.cons (by (conv => lhs; whnf) <;> rfl) (.cons (by (conv => lhs; whnf) <;> rfl) (.cons (by (conv => lhs; whnf) <;> rfl) (.cons (by (conv => lhs; whnf) <;> rfl) .nil))))))))))) (fun e_ => ?_)
          refine T.region ?_
          refine TL.cons rfl (V1.t (V1.move' (by (conv => lhs; whnf) <;> rfl)) ?_)
          refine TL.cons rfl (V1.t (V1.eqI rfl rfl (decide_eq_true (by omega))) ?_)
          refine TL.nil ?_
          refine T.cond_t rfl ?_
          refine T.seq ?_
          refine T.region ?_
          refine TL.cons rfl (V1.t (V1.move' (by (conv => lhs; whnf) <;> rfl)) ?_)
          refine TL.cons rfl (V1.t (V1.bytesToStr (l := p) ty_33 ty_5 ty_9 rfl (hin.src rfl) (by intro b h; cases h)) ?_)
          refine TL.cons rfl (V1.t (V1.assign' (by (conv => lhs; whnf) <;> rfl)) ?_)
          refine TL.nil ?_
          refine T.region ?_
          refine TL.cons rfl (V1.t (V1.move' (by (conv => lhs; whnf) <;> rfl)) ?_)
          refine TL.cons rfl (V1.t (V1.add (c := ((n + 1 : Nat) : Int)) rfl rfl (by rw [wrap_u64 _ (by omega) (by omega)]; omega)) ?_)
          refine TL.cons rfl (V1.t (V1.assign' (by (conv => lhs; whnf) <;> rfl)) ?_)
          refine TL.nil ?_
          exact ⟨(n + 1, p, Z', a'), _, _, trivial, (.cons rfl (.cons rfl .nil)), (.cons rfl (.cons rfl (.cons rfl (.cons rfl (.cons rfl (.cons rfl (.cons rfl .nil))))))), (by repeat (first | exact Take.nil | apply Take.one (by repeat (first | exact Pick.here | apply Pick.there | apply Pick.far)) | apply Take.seg (by repeat (first | exact PickS.last | exact PickS.one | exact PickS.here | exact PickS.nil | apply PickS.there | apply PickS.far)) | exact Take.last (by repeat (first | exact PickS.last | exact PickS.one | exact PickS.here | exact PickS.nil | apply PickS.there | apply PickS.far)))), ⟨rfl, hc', hd', by simp only; omega, by simp only; omega, by omega⟩⟩
        ·
          rintro ⟨n2, l2, Z2, a2⟩ e_ L ⟨rfl, hc2, hd2, hn2, hl2, hkp⟩
          simp only at hc2 hd2 hn2 hl2
          have ha22 : a2.length = 2 * 200 := hd2.1
          refine T.cut (σ := Nat × List Blk) (l0 := [(1, _), (5, _), (9, _), (10, _), (36, _), (37, _), (38, _)]) (fun x => [(7, .pointer (some ⟨x.1, 0, none⟩))]) (fun x L => L = x.2 ++ ((⟨bd, 0, [.slice (some ⟨ba, 0, none⟩) a2.length a2.length, .int .i64 (-1)], 2⟩ : Blk) :: (⟨ba, 0, List.map byteV a2, a2.length⟩ : Blk) :: []) ∧ Cl x.1 bd n2 l2 x.2) (.cons (by (conv => lhs; whnf) <;> rfl) (.cons (by (conv => lhs; whnf) <;> rfl) (.cons (by (conv => lhs; whnf) <;> rfl) (.cons (by (conv => lhs; whnf) <;> rfl) (.cons (by (conv => lhs; whnf) <;> rfl) (.cons (by (conv => lhs; whnf) <;> rfl) (.cons (by (conv => lhs; whnf) <;> rfl) .nil))))))) ?_ ?_
          ·
            refine T.seq ?_
            refine T.live (l := [(1, _), (5, _), (7, _), (9, _), (10, _), (11, _), (36, _), (37, _), (38, _)]) (.cons (by (conv => lhs; whnf) <;> rfl) (.cons (by (conv => lhs; whnf) <;> rfl) (.cons (by (conv => lhs; whnf) <;> rfl) (.cons (by (conv => lhs; whnf) <;> rfl) (.cons (by (conv => lhs; whnf) <;> rfl) (.cons (by (conv => lhs; whnf) <;> rfl) (.cons (by (conv => lhs; whnf) <;> rfl) (.cons (by (conv => lhs; whnf) <;> rfl) (.cons (by (conv => lhs; whnf) <;> rfl) .nil))))))))) (fun e_ => ?_)
            refine T.region ?_
            refine TL.cons rfl (V1.t (V1.move' (by (conv => lhs; whnf) <;> rfl)) ?_)
            refine TL.cons rfl (V1.t (V1.move' (by (conv => lhs; whnf) <;> rfl)) ?_)
            refine TL.cons rfl (V1.t (V1.lenSl ty_23 rfl) ?_)
            refine TL.cons rfl (T1.ltI_split rfl rfl (fun h19 => ?_) (fun h19 => ?_))
            ·
              obtain ⟨x, hx⟩ : ∃ z, lb[k]? = some z := ⟨_, List.getElem?_eq_getElem (by omega)⟩
              obtain ⟨qb, qo, rfl⟩ := ho.isSome (by omega)
              refine TL.cons rfl (V1.t (V1.move' (by (conv => lhs; whnf) <;> rfl)) ?_)
              refine TL.cons rfl (V1.t (V1.move' (by (conv => lhs; whnf) <;> rfl)) ?_)
              refine TL.cons rfl (V1.t (V1.move' (by (conv => lhs; whnf) <;> rfl)) ?_)
              refine TL.cons rfl (V1.t (V1.indexAddrS ty_23 sz_4 rfl rfl (by omega) (by omega)) ?_)
              refine TL.cons rfl (V1.t (V1.load1 (v := .bool x) one_4 rfl (ho.cell rfl (by rw [List.getElem?_map, Int.toNat_natCast, hx]; rfl))) ?_)
              cases x
              ·
                refine TL.cons rfl (V1.t (V1.pick rfl (by (conv => lhs; whnf) <;> rfl)) ?_)
                refine TL.nil ?_
                refine T.cond_f rfl ?_
                refine T.skip ?_
                exact ⟨(bc, Z2), _, _, trivial, (.cons rfl .nil), (.cons rfl (.cons rfl (.cons rfl (.cons rfl (.cons rfl (.cons rfl (.cons rfl .nil))))))), (by repeat (first | exact Take.nil | apply Take.one (by repeat (first | exact Pick.here | apply Pick.there | apply Pick.far)) | apply Take.seg (by repeat (first | exact PickS.last | exact PickS.one | exact PickS.here | exact PickS.nil | apply PickS.there | apply PickS.far)) | exact Take.last (by repeat (first | exact PickS.last | exact PickS.one | exact PickS.here | exact PickS.nil | apply PickS.there | apply PickS.far)))), ⟨rfl, hc2⟩⟩
              ·
                refine TL.cons rfl (V1.t (V1.pick rfl (by (conv => lhs; whnf) <;> rfl)) ?_)
                refine TL.nil ?_
                refine T.cond_t rfl ?_
                refine T.seq ?_
                refine T.region ?_
                refine TL.cons rfl (V1.t (V1.move' (by (conv => lhs; whnf) <;> rfl)) ?_)
                refine TL.cons rfl (T1.callX (X := [(⟨bd, 0, [.slice (some ⟨ba, 0, none⟩) a2.length a2.length, .int .i64 (-1)], 2⟩ : Blk), (⟨ba, 0, List.map byteV a2, a2.length⟩ : Blk)]) has_9 rfl (OpenD _ bd ba 200 n2 l2 a2 (-1) hd2 (by decide) (by decide) (by omega) (by first | omega | decide)) (by repeat (first | exact Take.nil | apply Take.one (by repeat (first | exact Pick.here | apply Pick.there | apply Pick.far)) | apply Take.seg (by repeat (first | exact PickS.last | exact PickS.one | exact PickS.here | exact PickS.nil | apply PickS.there | apply PickS.far)) | exact Take.last (by repeat (first | exact PickS.last | exact PickS.one | exact PickS.here | exact PickS.nil | apply PickS.there | apply PickS.far)))) (fun v_ Y_ hY => ?_))
                obtain ⟨bc3, Z3, rfl, hc3, rfl⟩ := hY
                simp only [List.append_assoc, List.cons_append, List.nil_append]
                refine TL.cons rfl (V1.t (V1.move' (by (conv => lhs; whnf) <;> rfl)) ?_)
                refine TL.cons rfl (V1.t (V1.extract rfl (by rfl)) ?_)
                refine TL.cons rfl (V1.t (V1.extract rfl (by rfl)) ?_)
                refine TL.cons rfl (V1.t (V1.assign' (by (conv => lhs; whnf) <;> rfl)) ?_)
                refine TL.cons rfl (V1.t (V1.assign' (by (conv => lhs; whnf) <;> rfl)) ?_)
                refine TL.nil ?_
                refine T.seq ?_
                refine T.live (l := [(1, _), (5, _), (7, _), (9, _), (10, _), (13, _), (36, _), (37, _), (38, _)]) (.cons (by (conv => lhs; whnf) <;> rfl) (.cons (by (conv => lhs; whnf) <;> rfl) (.cons (by (conv => lhs; whnf) <;> rfl) (.cons (by (conv => lhs; whnf) <;> rfl) (.cons (by (conv => lhs; whnf) <;> rfl) (.cons (by (conv => lhs; whnf) <;> rfl) (.cons (by (conv => lhs; whnf) <;> rfl) (.cons (by (conv => lhs; whnf) <;> rfl) (.cons (by (conv => lhs; whnf) <;> rfl) .nil))))))))) (fun e_ => ?_)
                refine T.region ?_
                refine TL.cons rfl (V1.t (V1.move' (by (conv => lhs; whnf) <;> rfl)) ?_)
                refine TL.cons rfl (V1.t (V1.eqNil ty_29 rfl rfl) ?_)
                refine TL.cons rfl (V1.t (V1.move' (by (conv => lhs; whnf) <;> rfl)) ?_)
                refine TL.cons rfl (V1.t (V1.move' (by (conv => lhs; whnf) <;> rfl)) ?_)
                refine TL.cons rfl (V1.t (V1.neI rfl rfl (decide_eq_false (by omega))) ?_)
                refine TL.cons rfl (V1.t (V1.pick rfl (by (conv => lhs; whnf) <;> rfl)) ?_)
                refine TL.nil ?_
                refine T.cond_f rfl ?_
                refine T.skip ?_
                exact ⟨(bc3, Z3), _, _, trivial, (.cons rfl .nil), (.cons rfl (.cons rfl (.cons rfl (.cons rfl (.cons rfl (.cons rfl (.cons rfl .nil))))))), (by repeat (first | exact Take.nil | apply Take.one (by repeat (first | exact Pick.here | apply Pick.there | apply Pick.far)) | apply Take.seg (by repeat (first | exact PickS.last | exact PickS.one | exact PickS.here | exact PickS.nil | apply PickS.there | apply PickS.far)) | exact Take.last (by repeat (first | exact PickS.last | exact PickS.one | exact PickS.here | exact PickS.nil | apply PickS.there | apply PickS.far)))), ⟨rfl, hc3⟩⟩
            ·
              refine TL.cons rfl (V1.t (V1.move' (by (conv => lhs; whnf) <;> rfl)) ?_)
              refine TL.no rfl ?_
              refine TL.no rfl ?_
              refine TL.no rfl ?_
              refine TL.no rfl ?_
              refine TL.cons rfl (V1.t (V1.pick rfl (by (conv => lhs; whnf) <;> rfl)) ?_)
              refine TL.nil ?_
              refine T.cond_f rfl ?_
              refine T.skip ?_
              exact ⟨(bc, Z2), _, _, trivial, (.cons rfl .nil), (.cons rfl (.cons rfl (.cons rfl (.cons rfl (.cons rfl (.cons rfl (.cons rfl .nil))))))), (by repeat (first | exact Take.nil | apply Take.one (by repeat (first | exact Pick.here | apply Pick.there | apply Pick.far)) | apply Take.seg (by repeat (first | exact PickS.last | exact PickS.one | exact PickS.here | exact PickS.nil | apply PickS.there | apply PickS.far)) | exact Take.last (by repeat (first | exact PickS.last | exact PickS.one | exact PickS.here | exact PickS.nil | apply PickS.there | apply PickS.far)))), ⟨rfl, hc2⟩⟩
          ·
            rintro ⟨bc4, Z4⟩ e_ L ⟨rfl, hc4⟩
            simp only at hc4
            refine T.seq ?_
            refine T.live (l := [(1, _), (5, _), (7, _), (9, _), (10, _), (36, _), (37, _), (38, _)]) (.cons (by (conv => lhs; whnf) <;> rfl) (.cons (by (conv => lhs; whnf) <;> rfl) (.cons (by (conv => lhs; whnf) <;> rfl) (.cons (by (conv => lhs; whnf) <;> rfl) (.cons (by (conv => lhs; whnf) <;> rfl) (.cons (by (conv => lhs; whnf) <;> rfl) (.cons (by (conv => lhs; whnf) <;> rfl) (.cons (by (conv => lhs; whnf) <;> rfl) .nil)))))))) (fun e_ => ?_)
            refine T.region ?_
            refine TL.cons rfl (V1.t (V1.move' (by (conv => lhs; whnf) <;> rfl)) ?_)
            refine TL.cons rfl (T1.callX (X := Z4) has_11 rfl (Value_any _ bc4 bd n2 l2 Z4 hc4 (by first | omega | decide)) (by repeat (first | exact Take.nil | apply Take.one (by repeat (first | exact Pick.here | apply Pick.there | apply Pick.far)) | apply Take.seg (by repeat (first | exact PickS.last | exact PickS.one | exact PickS.here | exact PickS.nil | apply PickS.there | apply PickS.far)) | exact Take.last (by repeat (first | exact PickS.last | exact PickS.one | exact PickS.here | exact PickS.nil | apply PickS.there | apply PickS.far)))) (fun v_ Y_ hY => ?_))
            obtain ⟨Lz, rfl, hsz⟩ := hY
            simp only [List.append_assoc, List.cons_append, List.nil_append]
            refine TL.cons rfl (V1.t (V1.slToStr ty_33 ty_5 ty_9 rfl hsz (by repeat (first | exact Sub.here | exact Sub.last | apply Sub.there | apply Sub.far))) ?_)
            refine TL.cons rfl (V1.t (V1.move' (by (conv => lhs; whnf) <;> rfl)) ?_)
            refine TL.cons rfl (V1.t (V1.neS (r := false) rfl rfl (by simp)) ?_)
            refine TL.cons rfl (V1.t (V1.move' (by (conv => lhs; whnf) <;> rfl)) ?_)
            refine TL.cons rfl (V1.t (V1.move' (by (conv => lhs; whnf) <;> rfl)) ?_)
            refine TL.cons rfl (T1.callX (X := Z4) has_12 rfl (Number_any _ bc4 bd n2 l2 Z4 hc4) (by repeat (first | exact Take.nil | apply Take.one (by repeat (first | exact Pick.here | apply Pick.there | apply Pick.far)) | apply Take.seg (by repeat (first | exact PickS.last | exact PickS.one | exact PickS.here | exact PickS.nil | apply PickS.there | apply PickS.far)) | exact Take.last (by repeat (first | exact PickS.last | exact PickS.one | exact PickS.here | exact PickS.nil | apply PickS.there | apply PickS.far)))) (fun v_ Y_ hY => ?_))
            obtain ⟨rfl, hzz⟩ := hY
            rw [hzz]
            refine TL.cons rfl (V1.t (V1.move' (by (conv => lhs; whnf) <;> rfl)) ?_)
            refine TL.cons rfl (V1.t (V1.neI rfl rfl (decide_eq_false (by omega))) ?_)
            refine TL.cons rfl (V1.t (V1.pick rfl (by (conv => lhs; whnf) <;> rfl)) ?_)
            refine TL.nil ?_
            refine T.cond_f rfl ?_
            refine T.skip ?_
            refine T.region ?_
            refine TL.cons rfl (V1.t (V1.add rfl rfl (wrap_i64 _ (by omega) (by omega))) ?_)
            refine TL.cons rfl (V1.t (V1.move' (by (conv => lhs; whnf) <;> rfl)) ?_)
            refine TL.nil ?_
            exact ⟨(k + 1, n2, l2, bc4, Z4, a2), _, _, (by simp only; omega), (.cons rfl (.cons rfl (.cons rfl (.cons rfl .nil)))), (.cons rfl (.cons rfl (.cons rfl (.cons rfl .nil)))), (by repeat (first | exact Take.nil | apply Take.one (by repeat (first | exact Pick.here | apply Pick.there | apply Pick.far)) | apply Take.seg (by repeat (first | exact PickS.last | exact PickS.one | exact PickS.here | exact PickS.nil | apply PickS.there | apply PickS.far)) | exact Take.last (by repeat (first | exact PickS.last | exact PickS.one | exact PickS.here | exact PickS.nil | apply PickS.there | apply PickS.far)))), ⟨rfl, hc4, hd2, by simp only; omega, by simp only; omega, hl2⟩⟩
    ·
      refine TL.nil ?_
      refine T.seq ?_
      refine T.cond_f rfl ?_
      refine T.exit ?_
      refine T.seq ?_
      refine T.region ?_
      refine TL.cons rfl (V1.t (V1.assign' (by (conv => lhs; whnf) <;> rfl)) ?_)
      refine TL.nil ?_
      refine T.ret ?_
      exact ⟨_, [], _, .cons (.tmp (by (conv => lhs; whnf) <;> rfl)) .nil, Take.nil, rfl⟩

end Go.Proofs.Ytmolpgnekcfimaa.S
