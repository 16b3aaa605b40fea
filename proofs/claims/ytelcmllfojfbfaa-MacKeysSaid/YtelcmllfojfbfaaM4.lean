/- Two lists of bytes are the same just if they are. -/
import Derived.Test.YtelcmllfojfbfaaM3
namespace Go.Proofs.Ytelcmllfojfbfaa.S
open Go.RowKit

open Sh
theorem set_ne {p : List UInt8} {n : Nat} {x : UInt8} (hx : p[n]? = some x) : p ≠ p.set n ⟨x.toBitVec ^^^ 1#8⟩ := by
  intro h
  have hn : n < p.length := (List.getElem?_eq_some_iff.1 hx).1
  have h1 := congrArg (fun l : List UInt8 => l[n]?) h
  simp only [List.getElem?_set_self hn, hx, Option.some.injEq] at h1
  have h2 := congrArg (fun z : UInt8 => z.toBitVec[0]) h1
  simp only [BitVec.getElem_xor] at h2
  revert h2
  cases x.toBitVec[0] <;> simp
theorem byte_dec {p q : List UInt8} : decide (bstr p = bstr q) = decide (p = q) := by
  rw [decide_eq_decide]; exact ⟨fun h => bstr_inj h, fun h => by rw [h]⟩

set_option maxRecDepth 100000 in
set_option maxHeartbeats 4000000 in
theorem MacEqual_any (v0 v1 : Value) (p q : List UInt8) (at_ : Int) (w0 : World) (ha : SlR w0 v0 1 p.length (p.map byteV)) (hb : SlR w0 v1 1 q.length (q.map byteV)) (hpl : p.length ≤ 140737488355328) : Fn P 8 [v0, v1, .int .i64 at_] w0 [] (fun v _ => v = .bool true) := by
  obtain ⟨pa, pc, rfl⟩ := ha.form
  obtain ⟨qa, qc, rfl⟩ := hb.form
  refine Fn.of 65 [.tmp 6] Go.Proofs.Try.func8 rfl rfl rfl rfl ?_
  refine T.seq ?_
  refine T.region ?_
  refine TL.cons rfl (V1.t (V1.assign' (by (conv => lhs; whnf) <;> rfl)) ?_)
  refine TL.nil ?_
  refine T.seq ?_
  refine T.seq ?_
  refine T.region ?_
  refine TL.cons rfl (T1.call0 has_24 rfl (fun w hs => known_any w) (fun v hv => ?_))
  subst hv
  refine TL.cons rfl (V1.t (V1.not rfl rfl) ?_)
  refine TL.nil ?_
  refine T.cond_f rfl ?_
  refine T.skip ?_
  refine T.seq ?_
  refine T.seq ?_
  refine T.drawK (fun L_ => True) mixed trivial ?_
  refine TK.take 0 rfl (by decide +kernel) (by decide +kernel) (by decide +kernel) rfl (fun _ _ _ h => h) (fun L_ _ => V1.move' (by (conv => lhs; whnf) <;> rfl)) ?_
  refine TK.take 1 rfl (by decide +kernel) (by decide +kernel) (by decide +kernel) rfl (fun _ _ _ h => h) (fun L_ _ => V1.move' (by (conv => lhs; whnf) <;> rfl)) ?_
  refine TK.take 3 rfl (by decide +kernel) (by decide +kernel) (by decide +kernel) rfl (fun _ _ _ h => h) (fun L_ _ => V1.move' (by (conv => lhs; whnf) <;> rfl)) ?_
  refine TK.take 4 rfl (by decide +kernel) (by decide +kernel) (by decide +kernel) rfl (fun _ _ _ h => h) (fun L_ _ => V1.bytesToStr (l := p) ty_22 ty_5 ty_9 rfl (ha.src rfl) (by intro b h; cases h)) ?_
  refine TK.take 5 rfl (by decide +kernel) (by decide +kernel) (by decide +kernel) rfl (fun _ _ _ h => h) (fun L_ _ => V1.move' (by (conv => lhs; whnf) <;> rfl)) ?_
  refine TK.take 6 rfl (by decide +kernel) (by decide +kernel) (by decide +kernel) rfl (fun _ _ _ h => h) (fun L_ _ => V1.bytesToStr (l := q) ty_22 ty_5 ty_9 rfl (hb.src rfl) (by intro b h; cases h)) ?_
  refine TK.take 7 rfl (by decide +kernel) (by decide +kernel) (by decide +kernel) rfl (fun _ _ _ h => h) (fun L_ _ => V1.eqS (r := decide (p = q)) rfl rfl byte_dec) ?_
  refine TK.one 2 (by decide +kernel) rfl rfl (T1.callX (X := []) has_32 rfl (Equal_any _ _ _ (p) (q) [] (PartR.old ha) (PartR.old hb) (by omega)) Take.nil (fun v Y hY => ?_))
  obtain ⟨rfl, rfl⟩ := hY
  try dsimp only [List.cons_append, List.nil_append]
  refine ⟨trivial, ?_⟩
  refine TK.take 8 rfl (by decide +kernel) (by decide +kernel) (by decide +kernel) rfl (fun _ _ _ h => h) (fun L_ _ => V1.neB (r := false) ty_4 rfl rfl (by simp)) ?_
  refine TK.take 9 rfl (by decide +kernel) (by decide +kernel) (by decide +kernel) rfl (fun _ _ _ h => h) (fun L_ _ => V1.move' (by (conv => lhs; whnf) <;> rfl)) ?_
  refine TK.take 10 rfl (by decide +kernel) (by decide +kernel) (by decide +kernel) rfl (fun _ _ _ h => h) (fun L_ _ => V1.move' (by (conv => lhs; whnf) <;> rfl)) ?_
  refine TK.take 12 rfl (by decide +kernel) (by decide +kernel) (by decide +kernel) rfl (fun _ _ _ h => h) (fun L_ _ => V1.move' (by (conv => lhs; whnf) <;> rfl)) ?_
  refine TK.one 11 (by decide +kernel) rfl rfl (T1.buildSl1 (os := []) ty_22 sz_5 zr_5 (by decide) rfl .nil rfl (ones rfl) (fun b21 => ?_))
  refine ⟨trivial, ?_⟩
  refine TK.one 13 (by decide +kernel) rfl rfl (T1.append ty_22 kd_22 sz_5 by_5 zr_5 rfl (by decide) (by decide) rfl rfl (Sl.mk (b := b21) (xs := []) (len := 0) (cap := 0) (size := 0) rfl (Nat.le_refl _) (Nat.le_refl _)) (ha.src rfl) (one_bytes _) 200000000000000 (by simp only [List.length_map, List.length_nil]; omega) (by omega) (by repeat (first | exact PickS.last | exact PickS.one | exact PickS.here | exact PickS.nil | apply PickS.there | apply PickS.far)) (fun s1 Ls1 hs1 => ?_))
  rw [List.nil_append] at hs1
  refine ⟨trivial, ?_⟩
  refine TK.one 14 (by decide +kernel) rfl rfl (T1.callX (X := Ls1) has_32 rfl (Equal_any _ _ _ (p) (p) Ls1 (PartR.old ha) (PartR.own hs1 (fun _ h => h)) (by omega)) (by repeat (first | exact Take.nil | apply Take.one (by repeat (first | exact Pick.here | apply Pick.there | apply Pick.far)) | apply Take.seg (by repeat (first | exact PickS.last | exact PickS.one | exact PickS.here | exact PickS.nil | apply PickS.there | apply PickS.far)) | exact Take.last (by repeat (first | exact PickS.last | exact PickS.one | exact PickS.here | exact PickS.nil | apply PickS.there | apply PickS.far)))) (fun v Y hY => ?_))
  obtain ⟨rfl, rfl⟩ := hY
  try dsimp only [List.cons_append, List.nil_append]
  rw [show decide (p = p) = true from by simp]
  refine ⟨trivial, ?_⟩
  refine TK.take 15 rfl (by decide +kernel) (by decide +kernel) (by decide +kernel) rfl (fun _ _ _ h => h) (fun L_ _ => V1.not rfl rfl) ?_
  refine TK.take 16 rfl (by decide +kernel) (by decide +kernel) (by decide +kernel) rfl (fun _ _ _ h => h) (fun L_ _ => V1.pick rfl (by (conv => lhs; whnf) <;> rfl)) ?_
  refine TK.take 17 rfl (by decide +kernel) (by decide +kernel) (by decide +kernel) rfl (fun _ _ _ h => h) (fun L_ _ => V1.move' (by (conv => lhs; whnf) <;> rfl)) ?_
  refine TK.take 18 rfl (by decide +kernel) (by decide +kernel) (by decide +kernel) rfl (fun _ _ _ h => h) (fun L_ _ => V1.move' (by (conv => lhs; whnf) <;> rfl)) ?_
  refine TK.take 20 rfl (by decide +kernel) (by decide +kernel) (by decide +kernel) rfl (fun _ _ _ h => h) (fun L_ _ => V1.move' (by (conv => lhs; whnf) <;> rfl)) ?_
  refine TK.two 19 22 (by decide +kernel) rfl rfl rfl rfl (T1.buildSl1 (os := []) ty_22 sz_5 zr_5 (by decide) rfl .nil rfl (ones rfl) (fun b29 => ?_)) (T1.buildSl1 (os := [.const (.int .u8 0)]) ty_22 sz_5 zr_5 (by decide) rfl (.cons (by (conv => lhs; whnf) <;> rfl) .nil) rfl (ones rfl) (fun b32 => ?_))
  ·
    refine ⟨trivial, ?_⟩
    refine TK.two 21 22 (by decide +kernel) rfl rfl rfl rfl (T1.append ty_22 kd_22 sz_5 by_5 zr_5 rfl (by decide) (by decide) rfl rfl (Sl.mk (b := b29) (xs := []) (len := 0) (cap := 0) (size := 0) rfl (Nat.le_refl _) (Nat.le_refl _)) (ha.src rfl) (one_bytes _) 200000000000000 (by simp only [List.length_map, List.length_nil]; omega) (by omega) (by repeat (first | exact PickS.last | exact PickS.one | exact PickS.here | exact PickS.nil | apply PickS.there | apply PickS.far)) (fun s2 Ls2 hs2 => ?_)) (T1.buildSl1 (os := [.const (.int .u8 0)]) ty_22 sz_5 zr_5 (by decide) rfl (.cons (by (conv => lhs; whnf) <;> rfl) .nil) rfl (ones rfl) (fun b32 => ?_))
    ·
      rw [List.nil_append] at hs2
      refine ⟨trivial, ?_⟩
      refine TK.one 22 (by decide +kernel) rfl rfl (T1.buildSl1 (os := [.const (.int .u8 0)]) ty_22 sz_5 zr_5 (by decide) rfl (.cons (by (conv => lhs; whnf) <;> rfl) .nil) rfl (ones rfl) (fun b32 => ?_))
      refine ⟨trivial, ?_⟩
      refine TK.one 23 (by decide +kernel) rfl rfl (T1.append ty_22 kd_22 sz_5 by_5 zr_5 rfl (by decide) (by decide) rfl rfl hs2 (.sl (n := 1) (RdN.at0 (cells := [byteV 0]) (by repeat (first | exact Find.here | assumption | apply Find.there | apply Find.far))) rfl) (one_bytes [0]) 200000000000000 (by simp only [List.length_map, List.length_cons, List.length_nil]; omega) (by omega) (by repeat (first | exact PickS.last | exact PickS.one | exact PickS.here | exact PickS.nil | apply PickS.there | apply PickS.far)) (fun s3 Ls3 hs3 => ?_))
      rw [show [byteV 0] = ([0] : List UInt8).map byteV from rfl, ← List.map_append] at hs3
      refine ⟨trivial, ?_⟩
      refine TK.one 24 (by decide +kernel) rfl rfl (T1.callX (X := Ls3) has_32 rfl (Equal_any _ _ _ (p) (p ++ [0]) Ls3 (PartR.old ha) (PartR.own hs3 (fun _ h => h)) (by omega)) (by repeat (first | exact Take.nil | apply Take.one (by repeat (first | exact Pick.here | apply Pick.there | apply Pick.far)) | apply Take.seg (by repeat (first | exact PickS.last | exact PickS.one | exact PickS.here | exact PickS.nil | apply PickS.there | apply PickS.far)) | exact Take.last (by repeat (first | exact PickS.last | exact PickS.one | exact PickS.here | exact PickS.nil | apply PickS.there | apply PickS.far)))) (fun v Y hY => ?_))
      obtain ⟨rfl, rfl⟩ := hY
      try dsimp only [List.cons_append, List.nil_append]
      rw [show decide (p = p ++ [0]) = false from by simp]
      refine ⟨trivial, ?_⟩
      refine TK.take 25 rfl (by decide +kernel) (by decide +kernel) (by decide +kernel) rfl (fun _ _ _ h => h) (fun L_ _ => V1.pick rfl (by (conv => lhs; whnf) <;> rfl)) ?_
      refine TD.done (by decide +kernel) ?_
      refine T.cond_f rfl ?_
      refine T.skip ?_
      refine T.seq ?_
      refine T.seq ?_
      refine T.live (l := [(0, _), (2, _)]) (.cons (by (conv => lhs; whnf) <;> rfl) (.cons (by (conv => lhs; whnf) <;> rfl) .nil)) (fun e_ => ?_)
      refine T.region ?_
      refine TL.cons rfl (V1.t (V1.move' (by (conv => lhs; whnf) <;> rfl)) ?_)
      refine TL.cons rfl (T1.ltI_split rfl rfl (fun h5_1 => ?_) (fun h5_1 => ?_))
      ·
        refine TL.cons rfl (V1.t (V1.move' (by (conv => lhs; whnf) <;> rfl)) ?_)
        refine TL.no rfl ?_
        refine TL.no rfl ?_
        refine TL.no rfl ?_
        refine TL.no rfl ?_
        refine TL.cons rfl (V1.t (V1.pick rfl (by (conv => lhs; whnf) <;> rfl)) ?_)
        refine TL.nil ?_
        refine T.cond_t rfl ?_
        refine T.seq ?_
        refine T.region ?_
        refine TL.cons rfl (V1.t (V1.assign' (by (conv => lhs; whnf) <;> rfl)) ?_)
        refine TL.nil ?_
        refine T.ret ?_
        exact ⟨_, [], _, .cons (.tmp (by (conv => lhs; whnf) <;> rfl)) .nil, Take.nil, rfl⟩
      ·
        refine TL.cons rfl (V1.t (V1.move' (by (conv => lhs; whnf) <;> rfl)) ?_)
        refine TL.cons rfl (V1.t (V1.move' (by (conv => lhs; whnf) <;> rfl)) ?_)
        refine TL.cons rfl (V1.t (V1.move' (by (conv => lhs; whnf) <;> rfl)) ?_)
        refine TL.cons rfl (V1.t (V1.lenSl ty_22 rfl) ?_)
        refine TL.cons rfl (T1.geI_split rfl rfl (fun h5_6 => ?_) (fun h5_6 => ?_))
        ·
          refine TL.cons rfl (V1.t (V1.pick rfl (by (conv => lhs; whnf) <;> rfl)) ?_)
          refine TL.nil ?_
          refine T.cond_t rfl ?_
          refine T.seq ?_
          refine T.region ?_
          refine TL.cons rfl (V1.t (V1.assign' (by (conv => lhs; whnf) <;> rfl)) ?_)
          refine TL.nil ?_
          refine T.ret ?_
          exact ⟨_, [], _, .cons (.tmp (by (conv => lhs; whnf) <;> rfl)) .nil, Take.nil, rfl⟩
        ·
          refine TL.cons rfl (V1.t (V1.pick rfl (by (conv => lhs; whnf) <;> rfl)) ?_)
          refine TL.nil ?_
          refine T.cond_f rfl ?_
          refine T.skip ?_
          refine T.seq ?_
          refine T.region ?_
          refine TL.cons rfl (T1.buildSl1 (os := []) ty_22 sz_5 zr_5 (by decide) rfl .nil rfl (ones rfl) (fun b44 => ?_))
          refine TL.cons rfl (V1.t (V1.move' (by (conv => lhs; whnf) <;> rfl)) ?_)
          refine TL.cons rfl (T1.append ty_22 kd_22 sz_5 by_5 zr_5 rfl (by decide) (by decide) rfl rfl (Sl.mk (b := b44) (xs := []) (len := 0) (cap := 0) (size := 0) rfl (Nat.le_refl _) (Nat.le_refl _)) (ha.src rfl) (one_bytes _) 200000000000000 (by simp only [List.length_map, List.length_nil]; omega) (by omega) (by repeat (first | exact PickS.last | exact PickS.one | exact PickS.here | exact PickS.nil | apply PickS.there | apply PickS.far)) (fun s4 Ls4 hs4 => ?_))
          rw [List.nil_append] at hs4
          obtain ⟨n, rfl⟩ : ∃ n : Nat, at_ = (n : Int) := ⟨at_.toNat, by omega⟩
          obtain ⟨x, hx⟩ : ∃ x, p[n]? = some x := ⟨_, List.getElem?_eq_getElem (by omega)⟩
          obtain ⟨bc, oc, cc, zc, rfl, hcc, hzc, rfl⟩ := hs4.block (by intro h; have := congrArg List.length h; simp only [List.length_map, List.length_nil] at this; omega)
          rw [List.length_map] at hcc ⊢
          dsimp only [List.cons_append, List.nil_append]
          refine TL.cons rfl (V1.t (V1.assign' (by (conv => lhs; whnf) <;> rfl)) ?_)
          refine TL.nil ?_
          refine T.seq ?_
          refine T.region ?_
          refine TL.cons rfl (V1.t (V1.move' (by (conv => lhs; whnf) <;> rfl)) ?_)
          refine TL.cons rfl (V1.t (V1.move' (by (conv => lhs; whnf) <;> rfl)) ?_)
          refine TL.cons rfl (V1.t (V1.indexAddrS ty_22 sz_5 rfl rfl (by omega) (by omega)) ?_)
          refine TL.cons rfl (V1.t (V1.load1 one_5 rfl (show Rd _ _ ⟨bc, oc + n * 1, none⟩ (byteV x) from by rw [Nat.mul_one]; exact Rd.at (by repeat (first | exact Find.here | assumption | apply Find.there | apply Find.far)) (by rw [List.getElem?_map, hx]; rfl))) ?_)
          refine TL.cons rfl (V1.t (V1.xorW (b := 1#8) u8U rfl rfl) ?_)
          refine TL.cons rfl (V1.t (V1.indexAddrS ty_22 sz_5 rfl rfl (by omega) (by omega)) ?_)
          refine TL.cons rfl (T1.storeE (o := oc + n * 1) (cells := p.map byteV) (cells' := (p.set n ⟨x.toBitVec ^^^ 1#8⟩).map byteV) (v := byteV ⟨x.toBitVec ^^^ 1#8⟩) rfl rfl sz_5 rfl (by rw [show oc + n * 1 - oc = n from by omega, List.map_set]) (by repeat (first | exact Sub.one | apply Sub.there | apply Sub.far)) (by omega) (by rw [List.length_map]; omega) ?_)
          refine TL.nil ?_
          refine T.seq ?_
          refine T.live (l := [(0, _), (2, _), (7, _)]) (.cons (by (conv => lhs; whnf) <;> rfl) (.cons (by (conv => lhs; whnf) <;> rfl) (.cons (by (conv => lhs; whnf) <;> rfl) .nil))) (fun e_ => ?_)
          refine T.region ?_
          refine TL.cons rfl (V1.t (V1.move' (by (conv => lhs; whnf) <;> rfl)) ?_)
          refine TL.cons rfl (V1.t (V1.move' (by (conv => lhs; whnf) <;> rfl)) ?_)
          refine TL.cons rfl (T1.callX (X := [⟨bc, oc, (p.set n ⟨x.toBitVec ^^^ 1#8⟩).map byteV, zc⟩]) has_32 rfl (Equal_any _ _ _ (p) (p.set n ⟨x.toBitVec ^^^ 1#8⟩) [⟨bc, oc, (p.set n ⟨x.toBitVec ^^^ 1#8⟩).map byteV, zc⟩] (PartR.old ha) (PartR.own (Ls := [⟨bc, oc, (p.set n ⟨x.toBitVec ^^^ 1#8⟩).map byteV, zc⟩]) (.inr ⟨bc, oc, p.length, cc, zc, rfl, by rw [List.length_map, List.length_set, Nat.mul_one], hcc, by omega, rfl⟩) (fun _ h => h)) (by omega)) (by repeat (first | exact Take.nil | apply Take.one (by repeat (first | exact Pick.here | apply Pick.there | apply Pick.far)) | apply Take.seg (by repeat (first | exact PickS.last | exact PickS.one | exact PickS.here | exact PickS.nil | apply PickS.there | apply PickS.far)) | exact Take.last (by repeat (first | exact PickS.last | exact PickS.one | exact PickS.here | exact PickS.nil | apply PickS.there | apply PickS.far)))) (fun v Y hY => ?_))
          obtain ⟨rfl, rfl⟩ := hY
          try dsimp only [List.cons_append, List.nil_append]
          rw [decide_eq_false (set_ne hx)]
          refine TL.cons rfl (V1.t (V1.not rfl rfl) ?_)
          refine TL.cons rfl (V1.t (V1.move' (by (conv => lhs; whnf) <;> rfl)) ?_)
          refine TL.cons rfl (V1.t (V1.move' (by (conv => lhs; whnf) <;> rfl)) ?_)
          refine TL.cons rfl (V1.t (V1.move' (by (conv => lhs; whnf) <;> rfl)) ?_)
          refine TL.cons rfl (T1.sliceR ty_22 sz_5 rfl ha 0 n rfl rfl (Nat.zero_le _) (by omega) (fun v1 hv1 => ?_))
          rw [Nat.sub_zero, Nat.zero_mul, List.drop_zero, Nat.mul_one, ← List.map_take] at hv1
          have hpt : (p.take n).length = n := by rw [List.length_take]; omega
          refine TL.cons rfl (V1.t (V1.move' (by (conv => lhs; whnf) <;> rfl)) ?_)
          refine TL.cons rfl (T1.callX (X := []) has_32 rfl (Equal_any _ _ _ (p.take n) (p) [] (PartR.old (by rw [hpt]; exact hv1)) (PartR.old ha) (by rw [List.length_take]; omega)) Take.nil (fun v Y hY => ?_))
          obtain ⟨rfl, rfl⟩ := hY
          try dsimp only [List.cons_append, List.nil_append]
          rw [show decide (p.take n = p) = false from decide_eq_false (fun h => by have := congrArg List.length h; omega)]
          refine TL.cons rfl (V1.t (V1.not rfl rfl) ?_)
          refine TL.cons rfl (V1.t (V1.pick rfl (by (conv => lhs; whnf) <;> rfl)) ?_)
          refine TL.cons rfl (V1.t (V1.assign' (by (conv => lhs; whnf) <;> rfl)) ?_)
          refine TL.nil ?_
          refine T.ret ?_
          exact ⟨_, [], _, .cons (.tmp (by (conv => lhs; whnf) <;> rfl)) .nil, Take.nil, rfl⟩
    ·
      refine ⟨trivial, ?_⟩
      refine TK.one 21 (by decide +kernel) rfl rfl (T1.append ty_22 kd_22 sz_5 by_5 zr_5 rfl (by decide) (by decide) rfl rfl (Sl.mk (b := b29) (xs := []) (len := 0) (cap := 0) (size := 0) rfl (Nat.le_refl _) (Nat.le_refl _)) (ha.src rfl) (one_bytes _) 200000000000000 (by simp only [List.length_map, List.length_nil]; omega) (by omega) (by repeat (first | exact PickS.last | exact PickS.one | exact PickS.here | exact PickS.nil | apply PickS.there | apply PickS.far)) (fun s2 Ls2 hs2 => ?_))
      rw [List.nil_append] at hs2
      refine ⟨trivial, ?_⟩
      refine TK.one 23 (by decide +kernel) rfl rfl (T1.append ty_22 kd_22 sz_5 by_5 zr_5 rfl (by decide) (by decide) rfl rfl hs2 (.sl (n := 1) (RdN.at0 (cells := [byteV 0]) (by repeat (first | exact Find.here | assumption | apply Find.there | apply Find.far))) rfl) (one_bytes [0]) 200000000000000 (by simp only [List.length_map, List.length_cons, List.length_nil]; omega) (by omega) (by repeat (first | exact PickS.last | exact PickS.one | exact PickS.here | exact PickS.nil | apply PickS.there | apply PickS.far)) (fun s3 Ls3 hs3 => ?_))
      rw [show [byteV 0] = ([0] : List UInt8).map byteV from rfl, ← List.map_append] at hs3
      refine ⟨trivial, ?_⟩
      refine TK.one 24 (by decide +kernel) rfl rfl (T1.callX (X := Ls3) has_32 rfl (Equal_any _ _ _ (p) (p ++ [0]) Ls3 (PartR.old ha) (PartR.own hs3 (fun _ h => h)) (by omega)) (by repeat (first | exact Take.nil | apply Take.one (by repeat (first | exact Pick.here | apply Pick.there | apply Pick.far)) | apply Take.seg (by repeat (first | exact PickS.last | exact PickS.one | exact PickS.here | exact PickS.nil | apply PickS.there | apply PickS.far)) | exact Take.last (by repeat (first | exact PickS.last | exact PickS.one | exact PickS.here | exact PickS.nil | apply PickS.there | apply PickS.far)))) (fun v Y hY => ?_))
      obtain ⟨rfl, rfl⟩ := hY
      try dsimp only [List.cons_append, List.nil_append]
      rw [show decide (p = p ++ [0]) = false from by simp]
      refine ⟨trivial, ?_⟩
      refine TK.take 25 rfl (by decide +kernel) (by decide +kernel) (by decide +kernel) rfl (fun _ _ _ h => h) (fun L_ _ => V1.pick rfl (by (conv => lhs; whnf) <;> rfl)) ?_
      refine TD.done (by decide +kernel) ?_
      refine T.cond_f rfl ?_
      refine T.skip ?_
      refine T.seq ?_
      refine T.seq ?_
      refine T.live (l := [(0, _), (2, _)]) (.cons (by (conv => lhs; whnf) <;> rfl) (.cons (by (conv => lhs; whnf) <;> rfl) .nil)) (fun e_ => ?_)
      refine T.region ?_
      refine TL.cons rfl (V1.t (V1.move' (by (conv => lhs; whnf) <;> rfl)) ?_)
      refine TL.cons rfl (T1.ltI_split rfl rfl (fun h5_1 => ?_) (fun h5_1 => ?_))
      ·
        refine TL.cons rfl (V1.t (V1.move' (by (conv => lhs; whnf) <;> rfl)) ?_)
        refine TL.no rfl ?_
        refine TL.no rfl ?_
        refine TL.no rfl ?_
        refine TL.no rfl ?_
        refine TL.cons rfl (V1.t (V1.pick rfl (by (conv => lhs; whnf) <;> rfl)) ?_)
        refine TL.nil ?_
        refine T.cond_t rfl ?_
        refine T.seq ?_
        refine T.region ?_
        refine TL.cons rfl (V1.t (V1.assign' (by (conv => lhs; whnf) <;> rfl)) ?_)
        refine TL.nil ?_
        refine T.ret ?_
        exact ⟨_, [], _, .cons (.tmp (by (conv => lhs; whnf) <;> rfl)) .nil, Take.nil, rfl⟩
      ·
        refine TL.cons rfl (V1.t (V1.move' (by (conv => lhs; whnf) <;> rfl)) ?_)
        refine TL.cons rfl (V1.t (V1.move' (by (conv => lhs; whnf) <;> rfl)) ?_)
        refine TL.cons rfl (V1.t (V1.move' (by (conv => lhs; whnf) <;> rfl)) ?_)
        refine TL.cons rfl (V1.t (V1.lenSl ty_22 rfl) ?_)
        refine TL.cons rfl (T1.geI_split rfl rfl (fun h5_6 => ?_) (fun h5_6 => ?_))
        ·
          refine TL.cons rfl (V1.t (V1.pick rfl (by (conv => lhs; whnf) <;> rfl)) ?_)
          refine TL.nil ?_
          refine T.cond_t rfl ?_
          refine T.seq ?_
          refine T.region ?_
          refine TL.cons rfl (V1.t (V1.assign' (by (conv => lhs; whnf) <;> rfl)) ?_)
          refine TL.nil ?_
          refine T.ret ?_
          exact ⟨_, [], _, .cons (.tmp (by (conv => lhs; whnf) <;> rfl)) .nil, Take.nil, rfl⟩
        ·
          refine TL.cons rfl (V1.t (V1.pick rfl (by (conv => lhs; whnf) <;> rfl)) ?_)
          refine TL.nil ?_
          refine T.cond_f rfl ?_
          refine T.skip ?_
          refine T.seq ?_
          refine T.region ?_
          refine TL.cons rfl (T1.buildSl1 (os := []) ty_22 sz_5 zr_5 (by decide) rfl .nil rfl (ones rfl) (fun b44 => ?_))
          refine TL.cons rfl (V1.t (V1.move' (by (conv => lhs; whnf) <;> rfl)) ?_)
          refine TL.cons rfl (T1.append ty_22 kd_22 sz_5 by_5 zr_5 rfl (by decide) (by decide) rfl rfl (Sl.mk (b := b44) (xs := []) (len := 0) (cap := 0) (size := 0) rfl (Nat.le_refl _) (Nat.le_refl _)) (ha.src rfl) (one_bytes _) 200000000000000 (by simp only [List.length_map, List.length_nil]; omega) (by omega) (by repeat (first | exact PickS.last | exact PickS.one | exact PickS.here | exact PickS.nil | apply PickS.there | apply PickS.far)) (fun s4 Ls4 hs4 => ?_))
          rw [List.nil_append] at hs4
          obtain ⟨n, rfl⟩ : ∃ n : Nat, at_ = (n : Int) := ⟨at_.toNat, by omega⟩
          obtain ⟨x, hx⟩ : ∃ x, p[n]? = some x := ⟨_, List.getElem?_eq_getElem (by omega)⟩
          obtain ⟨bc, oc, cc, zc, rfl, hcc, hzc, rfl⟩ := hs4.block (by intro h; have := congrArg List.length h; simp only [List.length_map, List.length_nil] at this; omega)
          rw [List.length_map] at hcc ⊢
          dsimp only [List.cons_append, List.nil_append]
          refine TL.cons rfl (V1.t (V1.assign' (by (conv => lhs; whnf) <;> rfl)) ?_)
          refine TL.nil ?_
          refine T.seq ?_
          refine T.region ?_
          refine TL.cons rfl (V1.t (V1.move' (by (conv => lhs; whnf) <;> rfl)) ?_)
          refine TL.cons rfl (V1.t (V1.move' (by (conv => lhs; whnf) <;> rfl)) ?_)
          refine TL.cons rfl (V1.t (V1.indexAddrS ty_22 sz_5 rfl rfl (by omega) (by omega)) ?_)
          refine TL.cons rfl (V1.t (V1.load1 one_5 rfl (show Rd _ _ ⟨bc, oc + n * 1, none⟩ (byteV x) from by rw [Nat.mul_one]; exact Rd.at (by repeat (first | exact Find.here | assumption | apply Find.there | apply Find.far)) (by rw [List.getElem?_map, hx]; rfl))) ?_)
          refine TL.cons rfl (V1.t (V1.xorW (b := 1#8) u8U rfl rfl) ?_)
          refine TL.cons rfl (V1.t (V1.indexAddrS ty_22 sz_5 rfl rfl (by omega) (by omega)) ?_)
          refine TL.cons rfl (T1.storeE (o := oc + n * 1) (cells := p.map byteV) (cells' := (p.set n ⟨x.toBitVec ^^^ 1#8⟩).map byteV) (v := byteV ⟨x.toBitVec ^^^ 1#8⟩) rfl rfl sz_5 rfl (by rw [show oc + n * 1 - oc = n from by omega, List.map_set]) (by repeat (first | exact Sub.one | apply Sub.there | apply Sub.far)) (by omega) (by rw [List.length_map]; omega) ?_)
          refine TL.nil ?_
          refine T.seq ?_
          refine T.live (l := [(0, _), (2, _), (7, _)]) (.cons (by (conv => lhs; whnf) <;> rfl) (.cons (by (conv => lhs; whnf) <;> rfl) (.cons (by (conv => lhs; whnf) <;> rfl) .nil))) (fun e_ => ?_)
          refine T.region ?_
          refine TL.cons rfl (V1.t (V1.move' (by (conv => lhs; whnf) <;> rfl)) ?_)
          refine TL.cons rfl (V1.t (V1.move' (by (conv => lhs; whnf) <;> rfl)) ?_)
          refine TL.cons rfl (T1.callX (X := [⟨bc, oc, (p.set n ⟨x.toBitVec ^^^ 1#8⟩).map byteV, zc⟩]) has_32 rfl (Equal_any _ _ _ (p) (p.set n ⟨x.toBitVec ^^^ 1#8⟩) [⟨bc, oc, (p.set n ⟨x.toBitVec ^^^ 1#8⟩).map byteV, zc⟩] (PartR.old ha) (PartR.own (Ls := [⟨bc, oc, (p.set n ⟨x.toBitVec ^^^ 1#8⟩).map byteV, zc⟩]) (.inr ⟨bc, oc, p.length, cc, zc, rfl, by rw [List.length_map, List.length_set, Nat.mul_one], hcc, by omega, rfl⟩) (fun _ h => h)) (by omega)) (by repeat (first | exact Take.nil | apply Take.one (by repeat (first | exact Pick.here | apply Pick.there | apply Pick.far)) | apply Take.seg (by repeat (first | exact PickS.last | exact PickS.one | exact PickS.here | exact PickS.nil | apply PickS.there | apply PickS.far)) | exact Take.last (by repeat (first | exact PickS.last | exact PickS.one | exact PickS.here | exact PickS.nil | apply PickS.there | apply PickS.far)))) (fun v Y hY => ?_))
          obtain ⟨rfl, rfl⟩ := hY
          try dsimp only [List.cons_append, List.nil_append]
          rw [decide_eq_false (set_ne hx)]
          refine TL.cons rfl (V1.t (V1.not rfl rfl) ?_)
          refine TL.cons rfl (V1.t (V1.move' (by (conv => lhs; whnf) <;> rfl)) ?_)
          refine TL.cons rfl (V1.t (V1.move' (by (conv => lhs; whnf) <;> rfl)) ?_)
          refine TL.cons rfl (V1.t (V1.move' (by (conv => lhs; whnf) <;> rfl)) ?_)
          refine TL.cons rfl (T1.sliceR ty_22 sz_5 rfl ha 0 n rfl rfl (Nat.zero_le _) (by omega) (fun v1 hv1 => ?_))
          rw [Nat.sub_zero, Nat.zero_mul, List.drop_zero, Nat.mul_one, ← List.map_take] at hv1
          have hpt : (p.take n).length = n := by rw [List.length_take]; omega
          refine TL.cons rfl (V1.t (V1.move' (by (conv => lhs; whnf) <;> rfl)) ?_)
          refine TL.cons rfl (T1.callX (X := []) has_32 rfl (Equal_any _ _ _ (p.take n) (p) [] (PartR.old (by rw [hpt]; exact hv1)) (PartR.old ha) (by rw [List.length_take]; omega)) Take.nil (fun v Y hY => ?_))
          obtain ⟨rfl, rfl⟩ := hY
          try dsimp only [List.cons_append, List.nil_append]
          rw [show decide (p.take n = p) = false from decide_eq_false (fun h => by have := congrArg List.length h; omega)]
          refine TL.cons rfl (V1.t (V1.not rfl rfl) ?_)
          refine TL.cons rfl (V1.t (V1.pick rfl (by (conv => lhs; whnf) <;> rfl)) ?_)
          refine TL.cons rfl (V1.t (V1.assign' (by (conv => lhs; whnf) <;> rfl)) ?_)
          refine TL.nil ?_
          refine T.ret ?_
          exact ⟨_, [], _, .cons (.tmp (by (conv => lhs; whnf) <;> rfl)) .nil, Take.nil, rfl⟩
  ·
    refine ⟨trivial, ?_⟩
    refine TK.one 19 (by decide +kernel) rfl rfl (T1.buildSl1 (os := []) ty_22 sz_5 zr_5 (by decide) rfl .nil rfl (ones rfl) (fun b29 => ?_))
    refine ⟨trivial, ?_⟩
    refine TK.one 21 (by decide +kernel) rfl rfl (T1.append ty_22 kd_22 sz_5 by_5 zr_5 rfl (by decide) (by decide) rfl rfl (Sl.mk (b := b29) (xs := []) (len := 0) (cap := 0) (size := 0) rfl (Nat.le_refl _) (Nat.le_refl _)) (ha.src rfl) (one_bytes _) 200000000000000 (by simp only [List.length_map, List.length_nil]; omega) (by omega) (by repeat (first | exact PickS.last | exact PickS.one | exact PickS.here | exact PickS.nil | apply PickS.there | apply PickS.far)) (fun s2 Ls2 hs2 => ?_))
    rw [List.nil_append] at hs2
    refine ⟨trivial, ?_⟩
    refine TK.one 23 (by decide +kernel) rfl rfl (T1.append ty_22 kd_22 sz_5 by_5 zr_5 rfl (by decide) (by decide) rfl rfl hs2 (.sl (n := 1) (RdN.at0 (cells := [byteV 0]) (by repeat (first | exact Find.here | assumption | apply Find.there | apply Find.far))) rfl) (one_bytes [0]) 200000000000000 (by simp only [List.length_map, List.length_cons, List.length_nil]; omega) (by omega) (by repeat (first | exact PickS.last | exact PickS.one | exact PickS.here | exact PickS.nil | apply PickS.there | apply PickS.far)) (fun s3 Ls3 hs3 => ?_))
    rw [show [byteV 0] = ([0] : List UInt8).map byteV from rfl, ← List.map_append] at hs3
    refine ⟨trivial, ?_⟩
    refine TK.one 24 (by decide +kernel) rfl rfl (T1.callX (X := Ls3) has_32 rfl (Equal_any _ _ _ (p) (p ++ [0]) Ls3 (PartR.old ha) (PartR.own hs3 (fun _ h => h)) (by omega)) (by repeat (first | exact Take.nil | apply Take.one (by repeat (first | exact Pick.here | apply Pick.there | apply Pick.far)) | apply Take.seg (by repeat (first | exact PickS.last | exact PickS.one | exact PickS.here | exact PickS.nil | apply PickS.there | apply PickS.far)) | exact Take.last (by repeat (first | exact PickS.last | exact PickS.one | exact PickS.here | exact PickS.nil | apply PickS.there | apply PickS.far)))) (fun v Y hY => ?_))
    obtain ⟨rfl, rfl⟩ := hY
    try dsimp only [List.cons_append, List.nil_append]
    rw [show decide (p = p ++ [0]) = false from by simp]
    refine ⟨trivial, ?_⟩
    refine TK.take 25 rfl (by decide +kernel) (by decide +kernel) (by decide +kernel) rfl (fun _ _ _ h => h) (fun L_ _ => V1.pick rfl (by (conv => lhs; whnf) <;> rfl)) ?_
    refine TD.done (by decide +kernel) ?_
    refine T.cond_f rfl ?_
    refine T.skip ?_
    refine T.seq ?_
    refine T.seq ?_
    refine T.live (l := [(0, _), (2, _)]) (.cons (by (conv => lhs; whnf) <;> rfl) (.cons (by (conv => lhs; whnf) <;> rfl) .nil)) (fun e_ => ?_)
    refine T.region ?_
    refine TL.cons rfl (V1.t (V1.move' (by (conv => lhs; whnf) <;> rfl)) ?_)
    refine TL.cons rfl (T1.ltI_split rfl rfl (fun h5_1 => ?_) (fun h5_1 => ?_))
    ·
      refine TL.cons rfl (V1.t (V1.move' (by (conv => lhs; whnf) <;> rfl)) ?_)
      refine TL.no rfl ?_
      refine TL.no rfl ?_
      refine TL.no rfl ?_
      refine TL.no rfl ?_
      refine TL.cons rfl (V1.t (V1.pick rfl (by (conv => lhs; whnf) <;> rfl)) ?_)
      refine TL.nil ?_
      refine T.cond_t rfl ?_
      refine T.seq ?_
      refine T.region ?_
      refine TL.cons rfl (V1.t (V1.assign' (by (conv => lhs; whnf) <;> rfl)) ?_)
      refine TL.nil ?_
      refine T.ret ?_
      exact ⟨_, [], _, .cons (.tmp (by (conv => lhs; whnf) <;> rfl)) .nil, Take.nil, rfl⟩
    ·
      refine TL.cons rfl (V1.t (V1.move' (by (conv => lhs; whnf) <;> rfl)) ?_)
      refine TL.cons rfl (V1.t (V1.move' (by (conv => lhs; whnf) <;> rfl)) ?_)
      refine TL.cons rfl (V1.t (V1.move' (by (conv => lhs; whnf) <;> rfl)) ?_)
      refine TL.cons rfl (V1.t (V1.lenSl ty_22 rfl) ?_)
      refine TL.cons rfl (T1.geI_split rfl rfl (fun h5_6 => ?_) (fun h5_6 => ?_))
      ·
        refine TL.cons rfl (V1.t (V1.pick rfl (by (conv => lhs; whnf) <;> rfl)) ?_)
        refine TL.nil ?_
        refine T.cond_t rfl ?_
        refine T.seq ?_
        refine T.region ?_
        refine TL.cons rfl (V1.t (V1.assign' (by (conv => lhs; whnf) <;> rfl)) ?_)
        refine TL.nil ?_
        refine T.ret ?_
        exact ⟨_, [], _, .cons (.tmp (by (conv => lhs; whnf) <;> rfl)) .nil, Take.nil, rfl⟩
      ·
        refine TL.cons rfl (V1.t (V1.pick rfl (by (conv => lhs; whnf) <;> rfl)) ?_)
        refine TL.nil ?_
        refine T.cond_f rfl ?_
        refine T.skip ?_
        refine T.seq ?_
        refine T.region ?_
        refine TL.cons rfl (T1.buildSl1 (os := []) ty_22 sz_5 zr_5 (by decide) rfl .nil rfl (ones rfl) (fun b44 => ?_))
        refine TL.cons rfl (V1.t (V1.move' (by (conv => lhs; whnf) <;> rfl)) ?_)
        refine TL.cons rfl (T1.append ty_22 kd_22 sz_5 by_5 zr_5 rfl (by decide) (by decide) rfl rfl (Sl.mk (b := b44) (xs := []) (len := 0) (cap := 0) (size := 0) rfl (Nat.le_refl _) (Nat.le_refl _)) (ha.src rfl) (one_bytes _) 200000000000000 (by simp only [List.length_map, List.length_nil]; omega) (by omega) (by repeat (first | exact PickS.last | exact PickS.one | exact PickS.here | exact PickS.nil | apply PickS.there | apply PickS.far)) (fun s4 Ls4 hs4 => ?_))
        rw [List.nil_append] at hs4
        obtain ⟨n, rfl⟩ : ∃ n : Nat, at_ = (n : Int) := ⟨at_.toNat, by omega⟩
        obtain ⟨x, hx⟩ : ∃ x, p[n]? = some x := ⟨_, List.getElem?_eq_getElem (by omega)⟩
        obtain ⟨bc, oc, cc, zc, rfl, hcc, hzc, rfl⟩ := hs4.block (by intro h; have := congrArg List.length h; simp only [List.length_map, List.length_nil] at this; omega)
        rw [List.length_map] at hcc ⊢
        dsimp only [List.cons_append, List.nil_append]
        refine TL.cons rfl (V1.t (V1.assign' (by (conv => lhs; whnf) <;> rfl)) ?_)
        refine TL.nil ?_
        refine T.seq ?_
        refine T.region ?_
        refine TL.cons rfl (V1.t (V1.move' (by (conv => lhs; whnf) <;> rfl)) ?_)
        refine TL.cons rfl (V1.t (V1.move' (by (conv => lhs; whnf) <;> rfl)) ?_)
        refine TL.cons rfl (V1.t (V1.indexAddrS ty_22 sz_5 rfl rfl (by omega) (by omega)) ?_)
        refine TL.cons rfl (V1.t (V1.load1 one_5 rfl (show Rd _ _ ⟨bc, oc + n * 1, none⟩ (byteV x) from by rw [Nat.mul_one]; exact Rd.at (by repeat (first | exact Find.here | assumption | apply Find.there | apply Find.far)) (by rw [List.getElem?_map, hx]; rfl))) ?_)
        refine TL.cons rfl (V1.t (V1.xorW (b := 1#8) u8U rfl rfl) ?_)
        refine TL.cons rfl (V1.t (V1.indexAddrS ty_22 sz_5 rfl rfl (by omega) (by omega)) ?_)
        refine TL.cons rfl (T1.storeE (o := oc + n * 1) (cells := p.map byteV) (cells' := (p.set n ⟨x.toBitVec ^^^ 1#8⟩).map byteV) (v := byteV ⟨x.toBitVec ^^^ 1#8⟩) rfl rfl sz_5 rfl (by rw [show oc + n * 1 - oc = n from by omega, List.map_set]) (by repeat (first | exact Sub.one | apply Sub.there | apply Sub.far)) (by omega) (by rw [List.length_map]; omega) ?_)
        refine TL.nil ?_
        refine T.seq ?_
        refine T.live (l := [(0, _), (2, _), (7, _)]) (.cons (by (conv => lhs; whnf) <;> rfl) (.cons (by (conv => lhs; whnf) <;> rfl) (.cons (by (conv => lhs; whnf) <;> rfl) .nil))) (fun e_ => ?_)
        refine T.region ?_
        refine TL.cons rfl (V1.t (V1.move' (by (conv => lhs; whnf) <;> rfl)) ?_)
        refine TL.cons rfl (V1.t (V1.move' (by (conv => lhs; whnf) <;> rfl)) ?_)
        refine TL.cons rfl (T1.callX (X := [⟨bc, oc, (p.set n ⟨x.toBitVec ^^^ 1#8⟩).map byteV, zc⟩]) has_32 rfl (Equal_any _ _ _ (p) (p.set n ⟨x.toBitVec ^^^ 1#8⟩) [⟨bc, oc, (p.set n ⟨x.toBitVec ^^^ 1#8⟩).map byteV, zc⟩] (PartR.old ha) (PartR.own (Ls := [⟨bc, oc, (p.set n ⟨x.toBitVec ^^^ 1#8⟩).map byteV, zc⟩]) (.inr ⟨bc, oc, p.length, cc, zc, rfl, by rw [List.length_map, List.length_set, Nat.mul_one], hcc, by omega, rfl⟩) (fun _ h => h)) (by omega)) (by repeat (first | exact Take.nil | apply Take.one (by repeat (first | exact Pick.here | apply Pick.there | apply Pick.far)) | apply Take.seg (by repeat (first | exact PickS.last | exact PickS.one | exact PickS.here | exact PickS.nil | apply PickS.there | apply PickS.far)) | exact Take.last (by repeat (first | exact PickS.last | exact PickS.one | exact PickS.here | exact PickS.nil | apply PickS.there | apply PickS.far)))) (fun v Y hY => ?_))
        obtain ⟨rfl, rfl⟩ := hY
        try dsimp only [List.cons_append, List.nil_append]
        rw [decide_eq_false (set_ne hx)]
        refine TL.cons rfl (V1.t (V1.not rfl rfl) ?_)
        refine TL.cons rfl (V1.t (V1.move' (by (conv => lhs; whnf) <;> rfl)) ?_)
        refine TL.cons rfl (V1.t (V1.move' (by (conv => lhs; whnf) <;> rfl)) ?_)
        refine TL.cons rfl (V1.t (V1.move' (by (conv => lhs; whnf) <;> rfl)) ?_)
        refine TL.cons rfl (T1.sliceR ty_22 sz_5 rfl ha 0 n rfl rfl (Nat.zero_le _) (by omega) (fun v1 hv1 => ?_))
        rw [Nat.sub_zero, Nat.zero_mul, List.drop_zero, Nat.mul_one, ← List.map_take] at hv1
        have hpt : (p.take n).length = n := by rw [List.length_take]; omega
        refine TL.cons rfl (V1.t (V1.move' (by (conv => lhs; whnf) <;> rfl)) ?_)
        refine TL.cons rfl (T1.callX (X := []) has_32 rfl (Equal_any _ _ _ (p.take n) (p) [] (PartR.old (by rw [hpt]; exact hv1)) (PartR.old ha) (by rw [List.length_take]; omega)) Take.nil (fun v Y hY => ?_))
        obtain ⟨rfl, rfl⟩ := hY
        try dsimp only [List.cons_append, List.nil_append]
        rw [show decide (p.take n = p) = false from decide_eq_false (fun h => by have := congrArg List.length h; omega)]
        refine TL.cons rfl (V1.t (V1.not rfl rfl) ?_)
        refine TL.cons rfl (V1.t (V1.pick rfl (by (conv => lhs; whnf) <;> rfl)) ?_)
        refine TL.cons rfl (V1.t (V1.assign' (by (conv => lhs; whnf) <;> rfl)) ?_)
        refine TL.nil ?_
        refine T.ret ?_
        exact ⟨_, [], _, .cons (.tmp (by (conv => lhs; whnf) <;> rfl)) .nil, Take.nil, rfl⟩

end Go.Proofs.Ytelcmllfojfbfaa.S
