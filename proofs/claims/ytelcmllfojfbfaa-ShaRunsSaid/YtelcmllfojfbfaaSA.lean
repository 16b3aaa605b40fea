/- So many bytes alike have the sums of the standard. -/
import Derived.Test.YtelcmllfojfbfaaS9
namespace Go.Proofs.Ytelcmllfojfbfaa.S
open Go.RowKit

open Sh

theorem rep_getD {n i : Nat} {x d : UInt8} (h : i < n) : (List.replicate n x).getD i d = x := by
  rw [List.getD_eq_getElem?_getD, List.getElem?_replicate, if_pos h]; rfl

set_option maxRecDepth 100000 in
set_option maxHeartbeats 2000000 in
theorem ShaRuns_any (x : UInt8) (nn : Int) (w : World) : Fn P 13 [byteV x, .int .i64 nn] w [] (fun v _ => v = .bool true) := by
  refine Fn.of 47 [.tmp 4] Go.Proofs.Try.func13 rfl rfl rfl rfl ?_
  refine T.seq ?_
  refine T.region ?_
  refine TL.cons rfl (V1.t (V1.assign' (by (conv => lhs; whnf) <;> rfl)) ?_)
  refine TL.nil ?_
  refine T.seq ?_
  refine T.seq ?_
  refine T.region ?_
  refine TL.cons rfl (T1.call0 has_17 rfl (fun w hs => small_any w) (fun v hv => ?_))
  subst hv
  refine TL.cons rfl (V1.t (V1.not rfl rfl) ?_)
  refine TL.cons rfl (V1.t (V1.move' (by (conv => lhs; whnf) <;> rfl)) ?_)
  refine TL.cons rfl (T1.call0 has_21 rfl (fun w hs => large_any w) (fun v hv => ?_))
  subst hv
  refine TL.cons rfl (V1.t (V1.not rfl rfl) ?_)
  refine TL.cons rfl (V1.t (V1.pick rfl (by (conv => lhs; whnf) <;> rfl)) ?_)
  refine TL.nil ?_
  refine T.cond_f rfl ?_
  refine T.skip ?_
  refine T.seq ?_
  refine T.seq ?_
  refine T.region ?_
  refine TL.cons rfl (V1.t (V1.move' (by (conv => lhs; whnf) <;> rfl)) ?_)
  refine TL.cons rfl (T1.ltI_split rfl rfl (fun h3_1 => ?_) (fun h3_1 => ?_))
  ·
    refine TL.cons rfl (V1.t (V1.move' (by (conv => lhs; whnf) <;> rfl)) ?_)
    refine TL.no rfl ?_
    refine TL.no rfl ?_
    refine TL.cons rfl (V1.t (V1.pick rfl (by (conv => lhs; whnf) <;> rfl)) ?_)
    refine TL.nil ?_
    refine T.cond_t rfl ?_
    refine T.seq ?_
    refine T.region ?_
    refine TL.cons rfl (V1.t (V1.assign' (by (conv => lhs; whnf) <;> rfl)) ?_)
    refine TL.nil ?_
    refine T.ret ?_
    exact ⟨_, [], _, .cons (.tmp (by (conv => lhs; whnf) <;> rfl)) .nil, Take.nil, rfl⟩
  ·
    refine TL.cons rfl (V1.t (V1.move' (by (conv => lhs; whnf) <;> rfl)) ?_)
    refine TL.cons rfl (V1.t (V1.move' (by (conv => lhs; whnf) <;> rfl)) ?_)
    refine TL.cons rfl (T1.gtI_split rfl rfl (fun h3_4 => ?_) (fun h3_4 => ?_))
    ·
      refine TL.cons rfl (V1.t (V1.pick rfl (by (conv => lhs; whnf) <;> rfl)) ?_)
      refine TL.nil ?_
      refine T.cond_t rfl ?_
      refine T.seq ?_
      refine T.region ?_
      refine TL.cons rfl (V1.t (V1.assign' (by (conv => lhs; whnf) <;> rfl)) ?_)
      refine TL.nil ?_
      refine T.ret ?_
      exact ⟨_, [], _, .cons (.tmp (by (conv => lhs; whnf) <;> rfl)) .nil, Take.nil, rfl⟩
    ·
      refine TL.cons rfl (V1.t (V1.pick rfl (by (conv => lhs; whnf) <;> rfl)) ?_)
      refine TL.nil ?_
      refine T.cond_f rfl ?_
      refine T.skip ?_
      refine T.seq ?_
      refine T.region ?_
      refine TL.cons rfl (V1.t (V1.move' rfl) ?_)
      obtain ⟨n, rfl⟩ : ∃ n : Nat, nn = (n : Int) := ⟨nn.toNat, by omega⟩
      refine TL.cons rfl (T1.make1 n n ty_22 sz_5 by_5 zr_5 rfl rfl rfl (Nat.le_refl _) (by omega) (by omega) (fun b20 => ?_))
      refine TL.cons rfl (V1.t (V1.assign' (by (conv => lhs; whnf) <;> rfl)) ?_)
      refine TL.nil ?_
      refine T.seq ?_
      refine T.seq ?_
      refine T.live (l := [(0, _), (5, _)]) (.cons (by (conv => lhs; whnf) <;> rfl) (.cons (by (conv => lhs; whnf) <;> rfl) .nil)) (fun e_ => ?_)
      refine T.region ?_
      refine TL.cons rfl (V1.t (V1.move' (by (conv => lhs; whnf) <;> rfl)) ?_)
      refine TL.cons rfl (V1.t (V1.lenSl ty_22 rfl) ?_)
      refine TL.cons rfl (V1.t (V1.move' (by (conv => lhs; whnf) <;> rfl)) ?_)
      refine TL.nil ?_
      refine T.block ?_
      refine T.loopL (σ := Nat) (l0 := [(0, _), (5, _), (22, _)]) (fun x => [(23, .int .i64 (x : Nat))]) (fun k L => L = ⟨b20, 0, ((List.replicate n x).take k).map byteV ++ List.replicate (n - k) (.int .u8 0), n⟩ :: [] ∧ k ≤ n) (fun x => n - x) 0 (.cons rfl .nil) (.cons (by (conv => lhs; whnf) <;> rfl) (.cons (by (conv => lhs; whnf) <;> rfl) (.cons (by (conv => lhs; whnf) <;> rfl) .nil))) (by repeat (first | exact Take.nil | apply Take.one (by repeat (first | exact Pick.here | apply Pick.there | apply Pick.far)) | apply Take.seg (by repeat (first | exact PickS.last | exact PickS.one | exact PickS.here | exact PickS.nil | apply PickS.there | apply PickS.far)) | exact Take.last (by repeat (first | exact PickS.last | exact PickS.one | exact PickS.here | exact PickS.nil | apply PickS.there | apply PickS.far)))) (⟨rfl, Nat.zero_le _⟩) ?_
      rintro i e_ L ⟨rfl, hi⟩
      refine T.seq ?_
      refine T.region ?_
      refine TL.cons rfl (T1.ltI_split rfl rfl (fun h7_0 => ?_) (fun h7_0 => ?_))
      ·
        refine TL.nil ?_
        refine T.seq ?_
        refine T.cond_t rfl ?_
        refine T.skip ?_
        refine T.seq ?_
        refine T.block ?_
        refine T.seq ?_
        refine T.region ?_
        refine TL.cons rfl (V1.t (V1.move' (by (conv => lhs; whnf) <;> rfl)) ?_)
        refine TL.cons rfl (V1.t (V1.assign' (by (conv => lhs; whnf) <;> rfl)) ?_)
        refine TL.nil ?_
        refine T.region ?_
        refine TL.cons rfl (V1.t (V1.move' (by (conv => lhs; whnf) <;> rfl)) ?_)
        refine TL.cons rfl (V1.t (V1.move' (by (conv => lhs; whnf) <;> rfl)) ?_)
        refine TL.cons rfl (V1.t (V1.move' (by (conv => lhs; whnf) <;> rfl)) ?_)
        refine TL.cons rfl (V1.t (V1.indexAddrS ty_22 sz_5 rfl rfl (by omega) (by omega)) ?_)
        refine TL.cons rfl (T1.storeE (o := 0 + i * 1) (cells := ((List.replicate n x).take i).map byteV ++ List.replicate (n - i) (.int .u8 0)) (cells' := ((List.replicate n x).take (i + 1)).map byteV ++ List.replicate (n - (i + 1)) (.int .u8 0)) (v := byteV ((List.replicate n x).getD i 0)) rfl (congrArg byteV (rep_getD (by omega)).symm) sz_5 rfl (by rw [show 0 + i * 1 - 0 = i from by omega]; exact fill_set 0 (by simp) (by omega)) (by repeat (first | exact Sub.one | apply Sub.there | apply Sub.far)) (Nat.zero_le _) (by rw [List.length_append, List.length_map, List.length_take, List.length_replicate, List.length_replicate]; omega) ?_)
        refine TL.nil ?_
        refine T.region ?_
        refine TL.cons rfl (V1.t (V1.add rfl rfl (wrap_i64 _ (by omega) (by omega))) ?_)
        refine TL.cons rfl (V1.t (V1.move' (by (conv => lhs; whnf) <;> rfl)) ?_)
        refine TL.nil ?_
        exact ⟨i + 1, _, _, (by simp only; omega), (.cons rfl .nil), (.cons rfl (.cons rfl (.cons rfl .nil))), (by repeat (first | exact Take.nil | apply Take.one (by repeat (first | exact Pick.here | apply Pick.there | apply Pick.far)) | apply Take.seg (by repeat (first | exact PickS.last | exact PickS.one | exact PickS.here | exact PickS.nil | apply PickS.there | apply PickS.far)) | exact Take.last (by repeat (first | exact PickS.last | exact PickS.one | exact PickS.here | exact PickS.nil | apply PickS.there | apply PickS.far)))), ⟨rfl, by omega⟩⟩
      ·
        obtain rfl : n = i := by omega
        rw [fill_end (show (List.replicate n x).length = n from List.length_replicate)]
        refine TL.nil ?_
        refine T.seq ?_
        refine T.cond_f rfl ?_
        refine T.exit ?_
        refine T.seq ?_
        refine T.drawK (fun L_ => Find L_ ⟨b20, 0, (List.replicate n x).map byteV, n⟩) mixed (by repeat (first | exact Find.here | assumption | apply Find.there | apply Find.far)) ?_
        refine TK.take 0 rfl (by decide +kernel) (by decide +kernel) (by decide +kernel) rfl (fun _ _ _ h => h) (fun L_ k1_ => V1.move' (by (conv => lhs; whnf) <;> rfl)) ?_
        refine TK.take 3 rfl (by decide +kernel) (by decide +kernel) (by decide +kernel) rfl (fun _ _ _ h => h) (fun L_ k1_ => V1.move' (by (conv => lhs; whnf) <;> rfl)) ?_
        refine TK.take 4 rfl (by decide +kernel) (by decide +kernel) (by decide +kernel) rfl (fun _ _ _ h => h) (fun L_ k1_ => V1.bytesToStr (l := List.replicate n x) ty_22 ty_5 ty_9 rfl (.sl (n := n) (RdN.at0 (by repeat (first | exact Find.here | assumption | apply Find.there | apply Find.far))) (by simp)) (by intro b h; cases h)) ?_
        refine TK.one 1 (by decide +kernel) rfl rfl (T1.buildSl1 (os := [.tmp 31]) (vs := [.slice (some ⟨b20, 0, none⟩) n n]) ty_44 sz_22 zr_22 (by decide) rfl (.cons (by (conv => lhs; whnf) <;> rfl) .nil) rfl (ones rfl) (fun b32 => ?_))
        refine ⟨(by repeat (first | exact Find.here | assumption | apply Find.there | apply Find.far)), ?_⟩
        refine TK.one 2 (by decide +kernel) rfl rfl (T1.callX (X := [⟨b32, 0, [.slice (some ⟨b20, 0, none⟩) n n], 1⟩, ⟨b20, 0, (List.replicate n x).map byteV, n⟩]) has_19 rfl (Sum256_any _ _ [List.replicate n x] [⟨b32, 0, [.slice (some ⟨b20, 0, none⟩) n n], 1⟩, ⟨b20, 0, (List.replicate n x).map byteV, n⟩] (PartsR.ones (svs := [.slice (some ⟨b20, 0, none⟩) n n]) (size := 1) (by simp) rfl (one_part (PartR.own (Ls := [⟨b20, 0, (List.replicate n x).map byteV, n⟩]) (.inr ⟨b20, 0, n, n, n, rfl, by simp, Nat.le_refl _, by omega, rfl⟩) (by intro B hB; exact List.mem_cons_of_mem _ hB)))) (one_len (by simp; omega)) (show 1 < 9223372036854775807 by decide) (by simp; omega)) (by repeat (first | exact Take.nil | apply Take.one (by repeat (first | exact Pick.here | apply Pick.there | apply Pick.far)) | apply Take.seg (by repeat (first | exact PickS.last | exact PickS.one | exact PickS.here | exact PickS.nil | apply PickS.there | apply PickS.far)) | exact Take.last (by repeat (first | exact PickS.last | exact PickS.one | exact PickS.here | exact PickS.nil | apply PickS.there | apply PickS.far)))) (fun v Y hY => ?_))
        obtain ⟨rfl, rfl⟩ := hY
        dsimp only [List.cons_append, List.nil_append]
        rw [show ([List.replicate n x] : List (List UInt8)).flatten = List.replicate n x from by simp]
        refine ⟨(by repeat (first | exact Find.here | assumption | apply Find.there | apply Find.far)), ?_⟩
        refine TK.one 5 (by decide +kernel) rfl rfl (T1.call0 has_20 rfl (fun w hs => refSum256_any (List.replicate n x) w (by simp; omega)) (fun v hv2 => ?_))
        subst hv2
        refine ⟨(by repeat (first | exact Find.here | assumption | apply Find.there | apply Find.far)), ?_⟩
        refine TK.take 6 rfl (by decide +kernel) (by decide +kernel) (by decide +kernel) rfl (fun _ _ _ h => h) (fun L_ k1_ => V1.eqBs (r := true) ty_26 ty_5 sz_5 eg_26 rfl rfl (sha_len _ _) (sha_len _ _) (by simp)) ?_
        refine TK.take 7 rfl (by decide +kernel) (by decide +kernel) (by decide +kernel) rfl (fun _ _ _ h => h) (fun L_ k1_ => V1.move' (by (conv => lhs; whnf) <;> rfl)) ?_
        refine TK.take 8 rfl (by decide +kernel) (by decide +kernel) (by decide +kernel) rfl (fun _ _ _ h => h) (fun L_ k1_ => V1.move' (by (conv => lhs; whnf) <;> rfl)) ?_
        refine TK.take 11 rfl (by decide +kernel) (by decide +kernel) (by decide +kernel) rfl (fun _ _ _ h => h) (fun L_ k1_ => V1.move' (by (conv => lhs; whnf) <;> rfl)) ?_
        refine TK.take 12 rfl (by decide +kernel) (by decide +kernel) (by decide +kernel) rfl (fun _ _ _ h => h) (fun L_ k1_ => V1.bytesToStr (l := List.replicate n x) ty_22 ty_5 ty_9 rfl (.sl (n := n) (RdN.at0 (by repeat (first | exact Find.here | assumption | apply Find.there | apply Find.far))) (by simp)) (by intro b h; cases h)) ?_
        refine TK.one 9 (by decide +kernel) rfl rfl (T1.buildSl1 (os := [.tmp 39]) (vs := [.slice (some ⟨b20, 0, none⟩) n n]) ty_44 sz_22 zr_22 (by decide) rfl (.cons (by (conv => lhs; whnf) <;> rfl) .nil) rfl (ones rfl) (fun b40 => ?_))
        refine ⟨(by repeat (first | exact Find.here | assumption | apply Find.there | apply Find.far)), ?_⟩
        refine TK.one 10 (by decide +kernel) rfl rfl (T1.callX (X := [⟨b40, 0, [.slice (some ⟨b20, 0, none⟩) n n], 1⟩, ⟨b20, 0, (List.replicate n x).map byteV, n⟩]) has_22 rfl (Sum512_any _ _ [List.replicate n x] [⟨b40, 0, [.slice (some ⟨b20, 0, none⟩) n n], 1⟩, ⟨b20, 0, (List.replicate n x).map byteV, n⟩] (PartsR.ones (svs := [.slice (some ⟨b20, 0, none⟩) n n]) (size := 1) (by simp) rfl (one_part (PartR.own (Ls := [⟨b20, 0, (List.replicate n x).map byteV, n⟩]) (.inr ⟨b20, 0, n, n, n, rfl, by simp, Nat.le_refl _, by omega, rfl⟩) (by intro B hB; exact List.mem_cons_of_mem _ hB)))) (one_len (by simp; omega)) (show 1 < 9223372036854775807 by decide) (by simp; omega)) (by repeat (first | exact Take.nil | apply Take.one (by repeat (first | exact Pick.here | apply Pick.there | apply Pick.far)) | apply Take.seg (by repeat (first | exact PickS.last | exact PickS.one | exact PickS.here | exact PickS.nil | apply PickS.there | apply PickS.far)) | exact Take.last (by repeat (first | exact PickS.last | exact PickS.one | exact PickS.here | exact PickS.nil | apply PickS.there | apply PickS.far)))) (fun v Y hY => ?_))
        obtain ⟨rfl, rfl⟩ := hY
        dsimp only [List.cons_append, List.nil_append]
        rw [show ([List.replicate n x] : List (List UInt8)).flatten = List.replicate n x from by simp]
        refine ⟨(by repeat (first | exact Find.here | assumption | apply Find.there | apply Find.far)), ?_⟩
        refine TK.one 13 (by decide +kernel) rfl rfl (T1.call0 has_23 rfl (fun w hs => refSum512_any (List.replicate n x) w (by simp; omega)) (fun v hv2 => ?_))
        subst hv2
        refine ⟨(by repeat (first | exact Find.here | assumption | apply Find.there | apply Find.far)), ?_⟩
        refine TK.take 14 rfl (by decide +kernel) (by decide +kernel) (by decide +kernel) rfl (fun _ _ _ h => h) (fun L_ k1_ => V1.eqBs (r := true) ty_31 ty_5 sz_5 eg_31 rfl rfl (sha_len _ _) (sha_len _ _) (by simp)) ?_
        refine TK.take 15 rfl (by decide +kernel) (by decide +kernel) (by decide +kernel) rfl (fun _ _ _ h => h) (fun L_ k1_ => V1.pick rfl (by (conv => lhs; whnf) <;> rfl)) ?_
        refine TK.take 16 rfl (by decide +kernel) (by decide +kernel) (by decide +kernel) rfl (fun _ _ _ h => h) (fun L_ k1_ => V1.assign' (by (conv => lhs; whnf) <;> rfl)) ?_
        refine TD.done (by decide +kernel) ?_
        refine T.ret ?_
        exact ⟨_, [], _, .cons (.tmp (by (conv => lhs; whnf) <;> rfl)) .nil, Take.nil, rfl⟩

end Go.Proofs.Ytelcmllfojfbfaa.S
