/- A disk on which both places are spoilt. -/
import Derived.Test.YtmolpgnekcfimaaCA
import Derived.Test.YtmolpgnekcfimaaOpsB
import Derived.Test.YtmolpgnekcfimaaOpen5
namespace Go.Proofs.Ytmolpgnekcfimaa.S
open Go.RowKit

open Sh
theorem PokeD (w0 : World) (bd ba : Nat) (a : List UInt8) (pw : Int) (i : Nat) (x : UInt8) (hi : i < a.length) : FnX P 17 [.pointer (some ⟨bd, 0, none⟩), .int .i64 (i : Int), byteV x] w0 [] [(⟨bd, 0, [.slice (some ⟨ba, 0, none⟩) a.length a.length, .int .i64 pw], 2⟩ : Blk), (⟨ba, 0, List.map byteV a, a.length⟩ : Blk)] (fun v Y => v = .int .i64 0 ∧ ∃ a', a' = a.set i x ∧ a'.length = a.length ∧ Y = [(⟨bd, 0, [.slice (some ⟨ba, 0, none⟩) a'.length a'.length, .int .i64 pw], 2⟩ : Blk), (⟨ba, 0, List.map byteV a', a'.length⟩ : Blk)]) := by
  refine (Poke_any w0 bd ba a pw i x hi).mono fun v Y h => ⟨h.1, _, rfl, List.length_set, ?_⟩
  rw [h.2, List.length_set]
theorem KeepD2 (w0 : World) (bc bd ba r n : Nat) (pv : Value) (v a : List UInt8) (ps : List (List UInt8)) (Z Ps : List Blk) (hc : Cl bc bd n v Z) (hd : DiskOf r n v a) (hn : n < 1000000) (hp : PartsR w0 Ps pv ps) (hpn : ps.length ≤ 9223372036854775807) (hr1 : 64 ≤ r) (hr2 : r ≤ 65536) (hfit : ps.flatten.length ≤ r - 44) :
    FnX P 10 [.pointer (some ⟨bc, 0, none⟩), pv] w0 [] (Z ++ ((⟨bd, 0, [.slice (some ⟨ba, 0, none⟩) a.length a.length, .int .i64 (-1)], 2⟩ : Blk) :: (⟨ba, 0, List.map byteV a, a.length⟩ : Blk) :: Ps)) (fun x Y => x = .int .i64 0 ∧ ∃ Z' a', a'.length = a.length ∧ DiskOf r (n + 1) ps.flatten a' ∧ plc r (n % 2) a' = plc r (n % 2) a ∧ Cl bc bd (n + 1) ps.flatten Z' ∧ Y = Z' ++ ((⟨bd, 0, [.slice (some ⟨ba, 0, none⟩) a'.length a'.length, .int .i64 (-1)], 2⟩ : Blk) :: (⟨ba, 0, List.map byteV a', a'.length⟩ : Blk) :: Ps)) := by
  refine (Keep_any w0 bc bd ba r n pv v a (-1) ps Z Ps hc hn hp hpn hd.1 hr1 hr2 (by decide) (by decide)).mono fun x Y h => ?_
  have hw : ∀ k, wN (-1) k = k := fun k => by unfold wN; rw [if_pos (by decide)]
  have hp : ∀ k, pwF (-1) k = -1 := fun k => by unfold pwF; rw [if_pos (by decide)]
  rcases h with ⟨h, _⟩ | ⟨_, h, _⟩ | ⟨h1, h2, h3, Z', h4, h5⟩
  · omega
  · rw [hw] at h; omega
  · rw [hw, hp, List.take_length] at h5
    have h6 := disk_keep (u := ps.flatten) hd (by omega) (by omega)
    have hl : (splice a ((n + 1) % 2 * r) (recB (n + 1) ps.flatten)).length = a.length := h6.1.trans hd.1.symm
    exact ⟨h3, Z', _, hl, h6, plc_splice_other hd.1 (by omega) (by omega) (by omega) (by rw [recB_len]; omega), h4, by rw [hl]; exact h5⟩
theorem plc_set_other {r i j p : Nat} {a : List UInt8} {x : UInt8} (hi : i < 2) (hj : j < 2) (hij : i ≠ j) (h1 : i * r ≤ p) (h2 : p < i * r + r) : plc r j (a.set p x) = plc r j a := by
  refine plc_ext List.length_set (fun k hk => ?_)
  rw [List.getElem?_set_ne]
  rcases (show (i = 0 ∧ j = 1) ∨ (i = 1 ∧ j = 0) by omega) with ⟨rfl, rfl⟩ | ⟨rfl, rfl⟩ <;> omega

set_option maxRecDepth 100000 in
set_option maxHeartbeats 4000000 in
theorem CellTorn_any (va vb : Value) (pa pb : List UInt8) (i0 i1 : Int) (w0 : World) (hpa : InR w0 va pa) (hpb : InR w0 vb pb) : Fn P 5 [.agg #[va, vb], .agg #[.int .i64 i0, .int .i64 i1]] w0 [] (fun v _ => v = .bool true) := by
  obtain ⟨ga, gc, rfl⟩ := hpa.form
  obtain ⟨ka, kc, rfl⟩ := hpb.form
  refine Fn.of 113 [.tmp 4] Go.Proofs.Try.func5 rfl rfl rfl rfl ?_
  refine T.seq ?_
  refine T.region ?_
  refine TL.cons rfl (T1.boxN (vs := [.slice ga pa.length gc, .slice ka pb.length kc]) 2 rfl rfl (fun b2 => ?_))
  refine TL.cons rfl (T1.boxN (vs := [.int .i64 i0, .int .i64 i1]) 2 rfl rfl (fun b3 => ?_))
  refine TL.cons rfl (V1.t (V1.assign' (by (conv => lhs; whnf) <;> rfl)) ?_)
  refine TL.nil ?_
  refine T.seq ?_
  refine T.seq ?_
  refine T.region ?_
  refine TL.cons rfl (T1.call0 has_7 rfl (fun w hs => keeps_any w) (fun v hv => ?_))
  obtain rfl := hv
  refine TL.cons rfl (V1.t (V1.not rfl rfl) ?_)
  refine TL.nil ?_
  refine T.cond_f rfl ?_
  refine T.skip ?_
  refine T.seq ?_
  refine T.region ?_
  refine TL.cons rfl (T1.callN has_8 rfl (fun w hs => NewDiskD 200 w (by decide) (by decide)) (fun v Y hY => ?_))
  obtain ⟨bd, ba, a, rfl, hd, -, rfl⟩ := hY
  have ha2 : a.length = 2 * 200 := hd.1
  have hal : a.length ≤ 1000000 := by omega
  simp only [List.cons_append, List.nil_append]
  refine TL.cons rfl (V1.t (V1.move' (by (conv => lhs; whnf) <;> rfl)) ?_)
  refine TL.cons rfl (V1.t (V1.extract rfl (by rfl)) ?_)
  refine TL.cons rfl (V1.t (V1.extract rfl (by rfl)) ?_)
  refine TL.cons rfl (V1.t (V1.assign' (by (conv => lhs; whnf) <;> rfl)) ?_)
  refine TL.cons rfl (V1.t (V1.assign' (by (conv => lhs; whnf) <;> rfl)) ?_)
  refine TL.nil ?_
  refine T.seq ?_
  refine T.seq ?_
  refine T.region ?_
  refine TL.cons rfl (V1.t (V1.move' (by (conv => lhs; whnf) <;> rfl)) ?_)
  refine TL.cons rfl (V1.t (V1.eqNil ty_25 rfl rfl) ?_)
  refine TL.nil ?_
  refine T.cond_f rfl ?_
  refine T.skip ?_
  refine T.seq ?_
  refine T.region ?_
  refine TL.cons rfl (V1.t (V1.move' (by (conv => lhs; whnf) <;> rfl)) ?_)
  refine TL.cons rfl (T1.callX (X := [(⟨bd, 0, [.slice (some ⟨ba, 0, none⟩) a.length a.length, .int .i64 (-1)], 2⟩ : Blk), (⟨ba, 0, List.map byteV a, a.length⟩ : Blk)]) has_9 rfl (OpenD _ bd ba 200 0 [] a (-1) hd (by decide) (by decide) (by omega) (by first | omega | decide)) (by repeat (first | exact Take.nil | apply Take.one (by repeat (first | exact Pick.here | apply Pick.there | apply Pick.far)) | apply Take.seg (by repeat (first | exact PickS.last | exact PickS.one | exact PickS.here | exact PickS.nil | apply PickS.there | apply PickS.far)) | exact Take.last (by repeat (first | exact PickS.last | exact PickS.one | exact PickS.here | exact PickS.nil | apply PickS.there | apply PickS.far)))) (fun v_ Y_ hY => ?_))
  obtain ⟨bc, Z, rfl, hc, rfl⟩ := hY
  simp only [List.append_assoc, List.cons_append, List.nil_append]
  refine TL.cons rfl (V1.t (V1.move' (by (conv => lhs; whnf) <;> rfl)) ?_)
  refine TL.cons rfl (V1.t (V1.extract rfl (by rfl)) ?_)
  refine TL.cons rfl (V1.t (V1.extract rfl (by rfl)) ?_)
  refine TL.cons rfl (V1.t (V1.assign' (by (conv => lhs; whnf) <;> rfl)) ?_)
  refine TL.cons rfl (V1.t (V1.assign' (by (conv => lhs; whnf) <;> rfl)) ?_)
  refine TL.nil ?_
  refine T.seq ?_
  refine T.seq ?_
  refine T.live (l := [(2, _), (3, _), (5, _), (7, _)]) (.cons (by (conv => lhs; whnf) <;> rfl) (.cons (by (conv => lhs; whnf) <;> rfl) (.cons (by (conv => lhs; whnf) <;> rfl) (.cons (by (conv => lhs; whnf) <;> rfl) .nil)))) (fun e_ => ?_)
  refine T.region ?_
  refine TL.cons rfl (V1.t (V1.move' (by (conv => lhs; whnf) <;> rfl)) ?_)
  refine TL.cons rfl (V1.t (V1.eqNil ty_29 rfl rfl) ?_)
  refine TL.cons rfl (V1.t (V1.move' (by (conv => lhs; whnf) <;> rfl)) ?_)
  refine TL.cons rfl (V1.t (V1.move' (by (conv => lhs; whnf) <;> rfl)) ?_)
  refine TL.cons rfl (T1.callX (X := Z) has_12 rfl (Number_any _ bc bd 0 [] Z hc) (by repeat (first | exact Take.nil | apply Take.one (by repeat (first | exact Pick.here | apply Pick.there | apply Pick.far)) | apply Take.seg (by repeat (first | exact PickS.last | exact PickS.one | exact PickS.here | exact PickS.nil | apply PickS.there | apply PickS.far)) | exact Take.last (by repeat (first | exact PickS.last | exact PickS.one | exact PickS.here | exact PickS.nil | apply PickS.there | apply PickS.far)))) (fun v_ Y_ hY => ?_))
  obtain ⟨rfl, hzz⟩ := hY
  rw [hzz]
  refine TL.cons rfl (V1.t (V1.neI rfl rfl (decide_eq_false (by omega))) ?_)
  refine TL.cons rfl (V1.t (V1.pick rfl (by (conv => lhs; whnf) <;> rfl)) ?_)
  refine TL.cons rfl (V1.t (V1.move' (by (conv => lhs; whnf) <;> rfl)) ?_)
  refine TL.cons rfl (V1.t (V1.move' (by (conv => lhs; whnf) <;> rfl)) ?_)
  refine TL.cons rfl (T1.callX (X := Z) has_11 rfl (Value_any _ bc bd 0 [] Z hc (by first | omega | decide)) (by repeat (first | exact Take.nil | apply Take.one (by repeat (first | exact Pick.here | apply Pick.there | apply Pick.far)) | apply Take.seg (by repeat (first | exact PickS.last | exact PickS.one | exact PickS.here | exact PickS.nil | apply PickS.there | apply PickS.far)) | exact Take.last (by repeat (first | exact PickS.last | exact PickS.one | exact PickS.here | exact PickS.nil | apply PickS.there | apply PickS.far)))) (fun v_ Y_ hY => ?_))
  obtain ⟨Lz, rfl, hsz⟩ := hY
  simp only [List.append_assoc, List.cons_append, List.nil_append]
  obtain ⟨za, zc, rfl⟩ := (PartR.own (w0 := w0) (Ps := Lz) hsz (fun _ h => h)).form
  simp only [List.length_nil]
  refine TL.cons rfl (V1.t (V1.lenSl ty_33 rfl) ?_)
  refine TL.cons rfl (V1.t (V1.neI rfl rfl (decide_eq_false (by omega))) ?_)
  refine TL.cons rfl (V1.t (V1.pick rfl (by (conv => lhs; whnf) <;> rfl)) ?_)
  refine TL.nil ?_
  refine T.cond_f rfl ?_
  refine T.skip ?_
  refine T.seq ?_
  refine T.seq ?_
  refine T.region ?_
  refine TL.cons rfl (V1.t (V1.loadN (vs := [.slice ga pa.length gc, .slice ka pb.length kc]) one_46 sz_46 rfl (RdN.whole (by repeat (first | exact Find.here | assumption | apply Find.there | apply Find.far))) (by rfl)) ?_)
  refine TL.cons rfl (V1.t (V1.move' (by (conv => lhs; whnf) <;> rfl)) ?_)
  refine TL.nil ?_
  refine T.block ?_
  refine T.rounds 3 (TR.step ?_)
  refine T.seq ?_
  refine T.live (l := [(3, _), (5, _), (7, _), (44, _), (45, _)]) (.cons (by (conv => lhs; whnf) <;> rfl) (.cons (by (conv => lhs; whnf) <;> rfl) (.cons (by (conv => lhs; whnf) <;> rfl) (.cons (by (conv => lhs; whnf) <;> rfl) (.cons (by (conv => lhs; whnf) <;> rfl) .nil))))) (fun e_ => ?_)
  refine T.region ?_
  refine TL.cons rfl (V1.t (V1.ltI rfl rfl (decide_eq_true (by omega))) ?_)
  ·
    refine TL.nil ?_
    refine T.seq ?_
    refine T.cond_t rfl ?_
    refine T.skip ?_
    refine T.seq ?_
    refine T.block ?_
    refine T.seq ?_
    refine T.region ?_
    refine TL.cons rfl (V1.t (V1.indexA (i := 0) ty_46 sz_33 rfl rfl (by decide) (by decide) (fun w => run_part1 one_33 (show (#[.slice ga pa.length gc, .slice ka pb.length kc] : Array Value)[0]? = some (.slice ga pa.length gc) from rfl) w)) ?_)
    refine TL.cons rfl (V1.t (V1.assign' (by (conv => lhs; whnf) <;> rfl)) ?_)
    refine TL.nil ?_
    refine T.seq ?_
    refine T.region ?_
    refine TL.cons rfl (V1.t (V1.move' (by (conv => lhs; whnf) <;> rfl)) ?_)
    refine TL.cons rfl (V1.t (V1.lenSl ty_33 rfl) ?_)
    refine TL.cons rfl (T1.gtI_split rfl rfl (fun h12 => ?_) (fun h12 => ?_))
    ·
      refine TL.cons rfl (V1.t (V1.move' (by (conv => lhs; whnf) <;> rfl)) ?_)
      refine TL.no rfl ?_
      refine TL.no rfl ?_
      refine TL.no rfl ?_
      refine TL.no rfl ?_
      refine TL.no rfl ?_
      refine TL.cons rfl (V1.t (V1.pick rfl (by (conv => lhs; whnf) <;> rfl)) ?_)
      refine TL.nil ?_
      refine T.cond_t rfl ?_
      refine T.seq ?_
      refine T.region ?_
      refine TL.cons rfl (V1.t (V1.move' (by (conv => lhs; whnf) <;> rfl)) ?_)
      refine TL.cons rfl (V1.t (V1.lenSl ty_33 rfl) ?_)
      refine TL.cons rfl (V1.t (V1.gtI rfl rfl (decide_eq_true (by omega))) ?_)
      refine TL.cons rfl (V1.t (V1.assign' (by (conv => lhs; whnf) <;> rfl)) ?_)
      refine TL.nil ?_
      refine T.ret ?_
      exact ⟨_, [], _, .cons (.tmp (by (conv => lhs; whnf) <;> rfl)) .nil, Take.nil, rfl⟩
    ·
      refine TL.cons rfl (V1.t (V1.move' (by (conv => lhs; whnf) <;> rfl)) ?_)
      refine TL.cons rfl (V1.t (V1.move' (by (conv => lhs; whnf) <;> rfl)) ?_)
      refine TL.cons rfl (V1.t (V1.move' (by (conv => lhs; whnf) <;> rfl)) ?_)
      refine TL.cons rfl (T1.buildSl1 (os := [.tmp 53]) (vs := [.slice ga pa.length gc]) ty_22 sz_33 zr_33 (by decide) rfl (.cons rfl .nil) rfl (ones rfl) (fun b54 => ?_))
      refine TL.cons rfl (T1.callX (X := Z ++ ((⟨bd, 0, [.slice (some ⟨ba, 0, none⟩) a.length a.length, .int .i64 (-1)], 2⟩ : Blk) :: (⟨ba, 0, List.map byteV a, a.length⟩ : Blk) :: [(⟨b54, 0, [.slice ga pa.length gc], 1⟩ : Blk)])) has_10 rfl (KeepD2 _ bc bd ba 200 0 _ [] a [pa] Z [(⟨b54, 0, [.slice ga pa.length gc], 1⟩ : Blk)] hc hd (by decide) (PartsR.ones (svs := [.slice ga pa.length gc]) (size := 1) (List.mem_cons_self ..) rfl (one_part hpa.part)) (show 1 ≤ 9223372036854775807 by decide) (by decide) (by decide) (by rw [show ([pa] : List (List UInt8)).flatten = pa from by simp]; omega)) (by repeat (first | exact Take.nil | apply Take.one (by repeat (first | exact Pick.here | apply Pick.there | apply Pick.far)) | apply Take.seg (by repeat (first | exact PickS.last | exact PickS.one | exact PickS.here | exact PickS.nil | apply PickS.there | apply PickS.far)) | exact Take.last (by repeat (first | exact PickS.last | exact PickS.one | exact PickS.here | exact PickS.nil | apply PickS.there | apply PickS.far)))) (fun v_ Y_ hY => ?_))
      rw [show ([pa] : List (List UInt8)).flatten = pa from by simp] at hY
      obtain ⟨rfl, Z1, a1, hal1, hd1, hpl1, hc1, rfl⟩ := hY
      replace hd1 : DiskOf 200 1 pa a1 := hd1
      replace hc1 : Cl bc bd 1 pa Z1 := hc1
      simp only [List.append_assoc, List.cons_append, List.nil_append]
      refine TL.cons rfl (V1.t (V1.neI rfl rfl (decide_eq_false (by omega))) ?_)
      refine TL.cons rfl (V1.t (V1.pick rfl (by (conv => lhs; whnf) <;> rfl)) ?_)
      refine TL.nil ?_
      refine T.cond_f rfl ?_
      refine T.skip ?_
      refine T.region ?_
      refine TL.cons rfl (V1.t (V1.add (c := 1) rfl rfl (by decide)) ?_)
      refine TL.cons rfl (V1.t (V1.move' (by (conv => lhs; whnf) <;> rfl)) ?_)
      refine TL.nil ?_
      refine TR.step ?_
      refine T.seq ?_
      refine T.live (l := [(3, _), (5, _), (7, _), (44, _), (45, _)]) (.cons (by (conv => lhs; whnf) <;> rfl) (.cons (by (conv => lhs; whnf) <;> rfl) (.cons (by (conv => lhs; whnf) <;> rfl) (.cons (by (conv => lhs; whnf) <;> rfl) (.cons (by (conv => lhs; whnf) <;> rfl) .nil))))) (fun e_ => ?_)
      refine T.region ?_
      refine TL.cons rfl (V1.t (V1.ltI rfl rfl (decide_eq_true (by omega))) ?_)
      ·
        refine TL.nil ?_
        refine T.seq ?_
        refine T.cond_t rfl ?_
        refine T.skip ?_
        refine T.seq ?_
        refine T.block ?_
        refine T.seq ?_
        refine T.region ?_
        refine TL.cons rfl (V1.t (V1.indexA (i := 1) ty_46 sz_33 rfl rfl (by decide) (by decide) (fun w => run_part1 one_33 (show (#[.slice ga pa.length gc, .slice ka pb.length kc] : Array Value)[1]? = some (.slice ka pb.length kc) from rfl) w)) ?_)
        refine TL.cons rfl (V1.t (V1.assign' (by (conv => lhs; whnf) <;> rfl)) ?_)
        refine TL.nil ?_
        refine T.seq ?_
        refine T.region ?_
        refine TL.cons rfl (V1.t (V1.move' (by (conv => lhs; whnf) <;> rfl)) ?_)
        refine TL.cons rfl (V1.t (V1.lenSl ty_33 rfl) ?_)
        refine TL.cons rfl (T1.gtI_split rfl rfl (fun h12 => ?_) (fun h12 => ?_))
        ·
          refine TL.cons rfl (V1.t (V1.move' (by (conv => lhs; whnf) <;> rfl)) ?_)
          refine TL.no rfl ?_
          refine TL.no rfl ?_
          refine TL.no rfl ?_
          refine TL.no rfl ?_
          refine TL.no rfl ?_
          refine TL.cons rfl (V1.t (V1.pick rfl (by (conv => lhs; whnf) <;> rfl)) ?_)
          refine TL.nil ?_
          refine T.cond_t rfl ?_
          refine T.seq ?_
          refine T.region ?_
          refine TL.cons rfl (V1.t (V1.move' (by (conv => lhs; whnf) <;> rfl)) ?_)
          refine TL.cons rfl (V1.t (V1.lenSl ty_33 rfl) ?_)
          refine TL.cons rfl (V1.t (V1.gtI rfl rfl (decide_eq_true (by omega))) ?_)
          refine TL.cons rfl (V1.t (V1.assign' (by (conv => lhs; whnf) <;> rfl)) ?_)
          refine TL.nil ?_
          refine T.ret ?_
          exact ⟨_, [], _, .cons (.tmp (by (conv => lhs; whnf) <;> rfl)) .nil, Take.nil, rfl⟩
        ·
          refine TL.cons rfl (V1.t (V1.move' (by (conv => lhs; whnf) <;> rfl)) ?_)
          refine TL.cons rfl (V1.t (V1.move' (by (conv => lhs; whnf) <;> rfl)) ?_)
          refine TL.cons rfl (V1.t (V1.move' (by (conv => lhs; whnf) <;> rfl)) ?_)
          refine TL.cons rfl (T1.buildSl1 (os := [.tmp 53]) (vs := [.slice ka pb.length kc]) ty_22 sz_33 zr_33 (by decide) rfl (.cons rfl .nil) rfl (ones rfl) (fun b54 => ?_))
          refine TL.cons rfl (T1.callX (X := Z1 ++ ((⟨bd, 0, [.slice (some ⟨ba, 0, none⟩) a1.length a1.length, .int .i64 (-1)], 2⟩ : Blk) :: (⟨ba, 0, List.map byteV a1, a1.length⟩ : Blk) :: [(⟨b54, 0, [.slice ka pb.length kc], 1⟩ : Blk)])) has_10 rfl (KeepD2 _ bc bd ba 200 1 _ pa a1 [pb] Z1 [(⟨b54, 0, [.slice ka pb.length kc], 1⟩ : Blk)] hc1 hd1 (by decide) (PartsR.ones (svs := [.slice ka pb.length kc]) (size := 1) (List.mem_cons_self ..) rfl (one_part hpb.part)) (show 1 ≤ 9223372036854775807 by decide) (by decide) (by decide) (by rw [show ([pb] : List (List UInt8)).flatten = pb from by simp]; omega)) (by repeat (first | exact Take.nil | apply Take.one (by repeat (first | exact Pick.here | apply Pick.there | apply Pick.far)) | apply Take.seg (by repeat (first | exact PickS.last | exact PickS.one | exact PickS.here | exact PickS.nil | apply PickS.there | apply PickS.far)) | exact Take.last (by repeat (first | exact PickS.last | exact PickS.one | exact PickS.here | exact PickS.nil | apply PickS.there | apply PickS.far)))) (fun v_ Y_ hY => ?_))
          rw [show ([pb] : List (List UInt8)).flatten = pb from by simp] at hY
          obtain ⟨rfl, Z2, a2, hal2, hd2, hpl2, hc2, rfl⟩ := hY
          replace hd2 : DiskOf 200 2 pb a2 := hd2
          replace hc2 : Cl bc bd 2 pb Z2 := hc2
          simp only [List.append_assoc, List.cons_append, List.nil_append]
          refine TL.cons rfl (V1.t (V1.neI rfl rfl (decide_eq_false (by omega))) ?_)
          refine TL.cons rfl (V1.t (V1.pick rfl (by (conv => lhs; whnf) <;> rfl)) ?_)
          refine TL.nil ?_
          refine T.cond_f rfl ?_
          refine T.skip ?_
          refine T.region ?_
          refine TL.cons rfl (V1.t (V1.add (c := 2) rfl rfl (by decide)) ?_)
          refine TL.cons rfl (V1.t (V1.move' (by (conv => lhs; whnf) <;> rfl)) ?_)
          refine TL.nil ?_
          refine TR.step ?_
          refine T.seq ?_
          refine T.live (l := [(3, _), (5, _), (7, _), (44, _), (45, _)]) (.cons (by (conv => lhs; whnf) <;> rfl) (.cons (by (conv => lhs; whnf) <;> rfl) (.cons (by (conv => lhs; whnf) <;> rfl) (.cons (by (conv => lhs; whnf) <;> rfl) (.cons (by (conv => lhs; whnf) <;> rfl) .nil))))) (fun e_ => ?_)
          refine T.region ?_
          refine TL.cons rfl (V1.t (V1.ltI rfl rfl (decide_eq_false (by omega))) ?_)
          ·
            refine TL.nil ?_
            refine T.seq ?_
            refine T.cond_f rfl ?_
            refine T.exit ?_
            refine T.seq ?_
            refine T.region ?_
            refine TL.cons rfl (V1.t (V1.move' (by (conv => lhs; whnf) <;> rfl)) ?_)
            refine TL.cons rfl (T1.callX (X := [(⟨bd, 0, [.slice (some ⟨ba, 0, none⟩) a2.length a2.length, .int .i64 (-1)], 2⟩ : Blk), (⟨ba, 0, List.map byteV a2, a2.length⟩ : Blk)]) has_16 rfl (Bytes_any _ bd ba a2 (-1) (by omega)) (by repeat (first | exact Take.nil | apply Take.one (by repeat (first | exact Pick.here | apply Pick.there | apply Pick.far)) | apply Take.seg (by repeat (first | exact PickS.last | exact PickS.one | exact PickS.here | exact PickS.nil | apply PickS.there | apply PickS.far)) | exact Take.last (by repeat (first | exact PickS.last | exact PickS.one | exact PickS.here | exact PickS.nil | apply PickS.there | apply PickS.far)))) (fun v_ Y_ hY => ?_))
            obtain ⟨Lw, rfl, hsw⟩ := hY
            simp only [List.append_assoc, List.cons_append, List.nil_append]
            obtain ⟨bw, ow, cw, zw, rfl, hcw, hzw, rfl⟩ := hsw.block (by intro h; have h9 := congrArg List.length h; rw [List.length_map, List.length_nil] at h9; omega)
            simp only [List.length_map, List.append_assoc, List.cons_append, List.nil_append]
            refine TL.cons rfl (V1.t (V1.assign' (by (conv => lhs; whnf) <;> rfl)) ?_)
            refine TL.nil ?_
            refine T.seq ?_
            refine T.seq ?_
            refine T.region ?_
            refine TL.cons rfl (V1.t (V1.loadN (vs := [.int .i64 i0, .int .i64 i1]) one_47 sz_47 rfl (RdN.whole (by repeat (first | exact Find.here | assumption | apply Find.there | apply Find.far))) (by rfl)) ?_)
            refine TL.cons rfl (V1.t (V1.move' (by (conv => lhs; whnf) <;> rfl)) ?_)
            refine TL.nil ?_
            refine T.block ?_
            refine T.rounds 3 (TR.step ?_)
            refine T.seq ?_
            refine T.region ?_
            refine TL.cons rfl (V1.t (V1.ltI rfl rfl (decide_eq_true (by omega))) ?_)
            ·
              refine TL.nil ?_
              refine T.seq ?_
              refine T.cond_t rfl ?_
              refine T.skip ?_
              refine T.seq ?_
              refine T.block ?_
              refine T.seq ?_
              refine T.region ?_
              refine TL.cons rfl (V1.t (V1.move' (by (conv => lhs; whnf) <;> rfl)) ?_)
              refine TL.cons rfl (V1.t (V1.indexA (i := 0) ty_47 sz_3 rfl rfl (by decide) (by decide) (fun w => run_part1 one_3 (show (#[.int .i64 i0, .int .i64 i1] : Array Value)[0]? = some (.int .i64 i0) from rfl) w)) ?_)
              refine TL.cons rfl (V1.t (V1.assign' (by (conv => lhs; whnf) <;> rfl)) ?_)
              refine TL.cons rfl (V1.t (V1.assign' (by (conv => lhs; whnf) <;> rfl)) ?_)
              refine TL.nil ?_
              refine T.seq ?_
              refine T.seq ?_
              refine T.region ?_
              refine TL.cons rfl (V1.t (V1.move' (by (conv => lhs; whnf) <;> rfl)) ?_)
              refine TL.cons rfl (T1.ltI_split rfl rfl (fun h19 => ?_) (fun h19 => ?_))
              ·
                refine TL.cons rfl (V1.t (V1.move' (by (conv => lhs; whnf) <;> rfl)) ?_)
                refine TL.no rfl ?_
                refine TL.no rfl ?_
                refine TL.cons rfl (V1.t (V1.pick rfl (by (conv => lhs; whnf) <;> rfl)) ?_)
                refine TL.nil ?_
                refine T.cond_t rfl ?_
                refine T.seq ?_
                refine T.live (l := []) .nil (fun e_ => ?_)
                refine T.region ?_
                refine TL.cons rfl (V1.t (V1.assign' (by (conv => lhs; whnf) <;> rfl)) ?_)
                refine TL.nil ?_
                refine T.ret ?_
                exact ⟨_, [], _, .cons (.tmp (by (conv => lhs; whnf) <;> rfl)) .nil, Take.nil, rfl⟩
              ·
                refine TL.cons rfl (V1.t (V1.move' (by (conv => lhs; whnf) <;> rfl)) ?_)
                refine TL.cons rfl (V1.t (V1.move' (by (conv => lhs; whnf) <;> rfl)) ?_)
                refine TL.cons rfl (T1.geI_split rfl rfl (fun h19b => ?_) (fun h19b => ?_))
                ·
                  refine TL.cons rfl (V1.t (V1.pick rfl (by (conv => lhs; whnf) <;> rfl)) ?_)
                  refine TL.nil ?_
                  refine T.cond_t rfl ?_
                  refine T.seq ?_
                  refine T.live (l := []) .nil (fun e_ => ?_)
                  refine T.region ?_
                  refine TL.cons rfl (V1.t (V1.assign' (by (conv => lhs; whnf) <;> rfl)) ?_)
                  refine TL.nil ?_
                  refine T.ret ?_
                  exact ⟨_, [], _, .cons (.tmp (by (conv => lhs; whnf) <;> rfl)) .nil, Take.nil, rfl⟩
                ·
                  obtain ⟨m0, rfl⟩ : ∃ m : Nat, i0 = m := ⟨i0.toNat, by omega⟩
                  obtain ⟨x0, hx0⟩ : ∃ z, a2[m0]? = some z := ⟨_, List.getElem?_eq_getElem (by omega)⟩
                  refine TL.cons rfl (V1.t (V1.pick rfl (by (conv => lhs; whnf) <;> rfl)) ?_)
                  refine TL.nil ?_
                  refine T.cond_f rfl ?_
                  refine T.skip ?_
                  refine T.live (l := [(5, _), (11, _), (12, _), (13, _), (64, _), (65, _)]) (.cons (by (conv => lhs; whnf) <;> rfl) (.cons (by (conv => lhs; whnf) <;> rfl) (.cons (by (conv => lhs; whnf) <;> rfl) (.cons (by (conv => lhs; whnf) <;> rfl) (.cons (by (conv => lhs; whnf) <;> rfl) (.cons (by (conv => lhs; whnf) <;> rfl) .nil)))))) (fun e_ => ?_)
                  refine T.region ?_
                  refine TL.cons rfl (V1.t (V1.move' (by (conv => lhs; whnf) <;> rfl)) ?_)
                  refine TL.cons rfl (V1.t (V1.move' (by (conv => lhs; whnf) <;> rfl)) ?_)
                  refine TL.cons rfl (V1.t (V1.mul (c := 0) rfl rfl (by decide)) ?_)
                  refine TL.cons rfl (V1.t (V1.move' (by (conv => lhs; whnf) <;> rfl)) ?_)
                  refine TL.cons rfl (V1.t (V1.add (c := ((m0 : Nat) : Int)) rfl rfl (by rw [wrap_i64 _ (by omega) (by omega)]; omega)) ?_)
                  refine TL.cons rfl (V1.t (V1.move' (by (conv => lhs; whnf) <;> rfl)) ?_)
                  refine TL.cons rfl (V1.t (V1.move' (by (conv => lhs; whnf) <;> rfl)) ?_)
                  refine TL.cons rfl (V1.t (V1.mul (c := 0) rfl rfl (by decide)) ?_)
                  refine TL.cons rfl (V1.t (V1.move' (by (conv => lhs; whnf) <;> rfl)) ?_)
                  refine TL.cons rfl (V1.t (V1.add (c := ((m0 : Nat) : Int)) rfl rfl (by rw [wrap_i64 _ (by omega) (by omega)]; omega)) ?_)
                  refine TL.cons rfl (V1.t (V1.indexAddrS ty_33 sz_5 rfl rfl (by omega) (by omega)) ?_)
                  refine TL.cons rfl (V1.t (V1.load1 one_5 rfl (show Rd _ _ ⟨bw, ow + (m0) * 1, none⟩ (byteV x0) from by rw [Nat.mul_one]; exact Rd.at (cells := List.map byteV a2) (by repeat (first | exact Find.here | assumption | apply Find.there | apply Find.far)) (by rw [List.getElem?_map, hx0]; rfl))) ?_)
                  refine TL.cons rfl (V1.t (show V1 _ _ _ _ (byteV (x0 + 1)) from V1.addW (a := x0.toBitVec) (b := 1#8) u8U rfl rfl) ?_)
                  refine TL.cons rfl (T1.callX (X := [(⟨bd, 0, [.slice (some ⟨ba, 0, none⟩) a2.length a2.length, .int .i64 (-1)], 2⟩ : Blk), (⟨ba, 0, List.map byteV a2, a2.length⟩ : Blk)]) has_17 rfl (PokeD _ bd ba a2 (-1) (m0) (x0 + 1) (by omega)) (by repeat (first | exact Take.nil | apply Take.one (by repeat (first | exact Pick.here | apply Pick.there | apply Pick.far)) | apply Take.seg (by repeat (first | exact PickS.last | exact PickS.one | exact PickS.here | exact PickS.nil | apply PickS.there | apply PickS.far)) | exact Take.last (by repeat (first | exact PickS.last | exact PickS.one | exact PickS.here | exact PickS.nil | apply PickS.there | apply PickS.far)))) (fun v_ Y_ hY => ?_))
                  obtain ⟨rfl, a3, ha3, hla3, rfl⟩ := hY
                  simp only [List.cons_append, List.nil_append]
                  refine TL.nil ?_
                  refine T.region ?_
                  refine TL.cons rfl (V1.t (V1.add (c := 1) rfl rfl (by decide)) ?_)
                  refine TL.cons rfl (V1.t (V1.move' (by (conv => lhs; whnf) <;> rfl)) ?_)
                  refine TL.nil ?_
                  refine TR.step ?_
                  refine T.seq ?_
                  refine T.live (l := [(5, _), (11, _), (64, _), (65, _)]) (.cons (by (conv => lhs; whnf) <;> rfl) (.cons (by (conv => lhs; whnf) <;> rfl) (.cons (by (conv => lhs; whnf) <;> rfl) (.cons (by (conv => lhs; whnf) <;> rfl) .nil)))) (fun e_ => ?_)
                  refine T.region ?_
                  refine TL.cons rfl (V1.t (V1.ltI rfl rfl (decide_eq_true (by omega))) ?_)
                  ·
                    refine TL.nil ?_
                    refine T.seq ?_
                    refine T.cond_t rfl ?_
                    refine T.skip ?_
                    refine T.seq ?_
                    refine T.block ?_
                    refine T.seq ?_
                    refine T.region ?_
                    refine TL.cons rfl (V1.t (V1.move' (by (conv => lhs; whnf) <;> rfl)) ?_)
                    refine TL.cons rfl (V1.t (V1.indexA (i := 1) ty_47 sz_3 rfl rfl (by decide) (by decide) (fun w => run_part1 one_3 (show (#[.int .i64 (m0 : Nat), .int .i64 i1] : Array Value)[1]? = some (.int .i64 i1) from rfl) w)) ?_)
                    refine TL.cons rfl (V1.t (V1.assign' (by (conv => lhs; whnf) <;> rfl)) ?_)
                    refine TL.cons rfl (V1.t (V1.assign' (by (conv => lhs; whnf) <;> rfl)) ?_)
                    refine TL.nil ?_
                    refine T.seq ?_
                    refine T.seq ?_
                    refine T.region ?_
                    refine TL.cons rfl (V1.t (V1.move' (by (conv => lhs; whnf) <;> rfl)) ?_)
                    refine TL.cons rfl (T1.ltI_split rfl rfl (fun h19 => ?_) (fun h19 => ?_))
                    ·
                      refine TL.cons rfl (V1.t (V1.move' (by (conv => lhs; whnf) <;> rfl)) ?_)
                      refine TL.no rfl ?_
                      refine TL.no rfl ?_
                      refine TL.cons rfl (V1.t (V1.pick rfl (by (conv => lhs; whnf) <;> rfl)) ?_)
                      refine TL.nil ?_
                      refine T.cond_t rfl ?_
                      refine T.seq ?_
                      refine T.region ?_
                      refine TL.cons rfl (V1.t (V1.assign' (by (conv => lhs; whnf) <;> rfl)) ?_)
                      refine TL.nil ?_
                      refine T.ret ?_
                      exact ⟨_, [], _, .cons (.tmp (by (conv => lhs; whnf) <;> rfl)) .nil, Take.nil, rfl⟩
                    ·
                      refine TL.cons rfl (V1.t (V1.move' (by (conv => lhs; whnf) <;> rfl)) ?_)
                      refine TL.cons rfl (V1.t (V1.move' (by (conv => lhs; whnf) <;> rfl)) ?_)
                      refine TL.cons rfl (T1.geI_split rfl rfl (fun h19b => ?_) (fun h19b => ?_))
                      ·
                        refine TL.cons rfl (V1.t (V1.pick rfl (by (conv => lhs; whnf) <;> rfl)) ?_)
                        refine TL.nil ?_
                        refine T.cond_t rfl ?_
                        refine T.seq ?_
                        refine T.region ?_
                        refine TL.cons rfl (V1.t (V1.assign' (by (conv => lhs; whnf) <;> rfl)) ?_)
                        refine TL.nil ?_
                        refine T.ret ?_
                        exact ⟨_, [], _, .cons (.tmp (by (conv => lhs; whnf) <;> rfl)) .nil, Take.nil, rfl⟩
                      ·
                        obtain ⟨m1, rfl⟩ : ∃ m : Nat, i1 = m := ⟨i1.toNat, by omega⟩
                        obtain ⟨x1, hx1⟩ : ∃ z, a2[200 + m1]? = some z := ⟨_, List.getElem?_eq_getElem (by omega)⟩
                        refine TL.cons rfl (V1.t (V1.pick rfl (by (conv => lhs; whnf) <;> rfl)) ?_)
                        refine TL.nil ?_
                        refine T.cond_f rfl ?_
                        refine T.skip ?_
                        refine T.region ?_
                        refine TL.cons rfl (V1.t (V1.move' (by (conv => lhs; whnf) <;> rfl)) ?_)
                        refine TL.cons rfl (V1.t (V1.move' (by (conv => lhs; whnf) <;> rfl)) ?_)
                        refine TL.cons rfl (V1.t (V1.mul (c := 200) rfl rfl (by decide)) ?_)
                        refine TL.cons rfl (V1.t (V1.move' (by (conv => lhs; whnf) <;> rfl)) ?_)
                        refine TL.cons rfl (V1.t (V1.add (c := ((200 + m1 : Nat) : Int)) rfl rfl (by rw [wrap_i64 _ (by omega) (by omega)]; omega)) ?_)
                        refine TL.cons rfl (V1.t (V1.move' (by (conv => lhs; whnf) <;> rfl)) ?_)
                        refine TL.cons rfl (V1.t (V1.move' (by (conv => lhs; whnf) <;> rfl)) ?_)
                        refine TL.cons rfl (V1.t (V1.mul (c := 200) rfl rfl (by decide)) ?_)
                        refine TL.cons rfl (V1.t (V1.move' (by (conv => lhs; whnf) <;> rfl)) ?_)
                        refine TL.cons rfl (V1.t (V1.add (c := ((200 + m1 : Nat) : Int)) rfl rfl (by rw [wrap_i64 _ (by omega) (by omega)]; omega)) ?_)
                        refine TL.cons rfl (V1.t (V1.indexAddrS ty_33 sz_5 rfl rfl (by omega) (by omega)) ?_)
                        refine TL.cons rfl (V1.t (V1.load1 one_5 rfl (show Rd _ _ ⟨bw, ow + (200 + m1) * 1, none⟩ (byteV x1) from by rw [Nat.mul_one]; exact Rd.at (cells := List.map byteV a2) (by repeat (first | exact Find.here | assumption | apply Find.there | apply Find.far)) (by rw [List.getElem?_map, hx1]; rfl))) ?_)
                        refine TL.cons rfl (V1.t (show V1 _ _ _ _ (byteV (x1 + 1)) from V1.addW (a := x1.toBitVec) (b := 1#8) u8U rfl rfl) ?_)
                        refine TL.cons rfl (T1.callX (X := [(⟨bd, 0, [.slice (some ⟨ba, 0, none⟩) a3.length a3.length, .int .i64 (-1)], 2⟩ : Blk), (⟨ba, 0, List.map byteV a3, a3.length⟩ : Blk)]) has_17 rfl (PokeD _ bd ba a3 (-1) (200 + m1) (x1 + 1) (by omega)) (by repeat (first | exact Take.nil | apply Take.one (by repeat (first | exact Pick.here | apply Pick.there | apply Pick.far)) | apply Take.seg (by repeat (first | exact PickS.last | exact PickS.one | exact PickS.here | exact PickS.nil | apply PickS.there | apply PickS.far)) | exact Take.last (by repeat (first | exact PickS.last | exact PickS.one | exact PickS.here | exact PickS.nil | apply PickS.there | apply PickS.far)))) (fun v_ Y_ hY => ?_))
                        obtain ⟨rfl, a4, ha4, hla4, rfl⟩ := hY
                        simp only [List.cons_append, List.nil_append]
                        refine TL.nil ?_
                        refine T.live (l := [(5, _), (11, _), (64, _), (65, _)]) (.cons (by (conv => lhs; whnf) <;> rfl) (.cons (by (conv => lhs; whnf) <;> rfl) (.cons (by (conv => lhs; whnf) <;> rfl) (.cons (by (conv => lhs; whnf) <;> rfl) .nil)))) (fun e_ => ?_)
                        refine T.region ?_
                        refine TL.cons rfl (V1.t (V1.add (c := 2) rfl rfl (by decide)) ?_)
                        refine TL.cons rfl (V1.t (V1.move' (by (conv => lhs; whnf) <;> rfl)) ?_)
                        refine TL.nil ?_
                        refine TR.step ?_
                        refine T.seq ?_
                        refine T.region ?_
                        refine TL.cons rfl (V1.t (V1.ltI rfl rfl (decide_eq_false (by omega))) ?_)
                        ·
                          refine TL.nil ?_
                          refine T.seq ?_
                          refine T.cond_f rfl ?_
                          refine T.exit ?_
                          refine T.seq ?_
                          refine T.region ?_
                          refine TL.cons rfl (V1.t (V1.move' (by (conv => lhs; whnf) <;> rfl)) ?_)
                          refine TL.cons rfl (T1.callX (X := [(⟨bd, 0, [.slice (some ⟨ba, 0, none⟩) a4.length a4.length, .int .i64 (-1)], 2⟩ : Blk), (⟨ba, 0, List.map byteV a4, a4.length⟩ : Blk)]) has_16 rfl (Bytes_any _ bd ba a4 (-1) (by omega)) (by repeat (first | exact Take.nil | apply Take.one (by repeat (first | exact Pick.here | apply Pick.there | apply Pick.far)) | apply Take.seg (by repeat (first | exact PickS.last | exact PickS.one | exact PickS.here | exact PickS.nil | apply PickS.there | apply PickS.far)) | exact Take.last (by repeat (first | exact PickS.last | exact PickS.one | exact PickS.here | exact PickS.nil | apply PickS.there | apply PickS.far)))) (fun v_ Y_ hY => ?_))
                          obtain ⟨Lb, rfl, hsb⟩ := hY
                          simp only [List.append_assoc, List.cons_append, List.nil_append]
                          refine TL.cons rfl (V1.t (V1.slToStr ty_33 ty_5 ty_9 rfl hsb (by repeat (first | exact Sub.here | exact Sub.last | apply Sub.there | apply Sub.far))) ?_)
                          refine TL.cons rfl (V1.t (V1.buildF pl_44 zr_44 (.one rfl (by (conv => lhs; whnf) <;> rfl) rfl .nil) (by repeat (first | exact FillL.nil | exact SetN.done | apply SetN.here | apply SetN.there | apply FillL.cons))) ?_)
                          refine TL.cons rfl (T1.call0 has_15 rfl (fun w hs => refOpen_any 200 a4 0 w (by omega) (by decide) (by decide)) (fun v_ hv => ?_))
                          obtain ⟨o, ho⟩ : ∃ o, o = openP (plc 200 0 a4) (plc 200 1 a4) := ⟨_, rfl⟩
                          rw [← ho] at hv
                          rcases o with _ | ⟨n4, v4⟩
                          ·
                            obtain rfl : v_ = .tuple #[.agg #[.int .i64 0, .string (bstr [])], .int .i64 130] := hv
                            refine TL.cons rfl (V1.t (V1.move' (by (conv => lhs; whnf) <;> rfl)) ?_)
                            refine TL.cons rfl (V1.t (V1.extract rfl (by rfl)) ?_)
                            refine TL.cons rfl (V1.t (V1.extract rfl (by rfl)) ?_)
                            refine TL.cons rfl (T1.allocN 2 zr_40 rfl (fun b14 => ?_))
                            refine TL.cons rfl (T1.storeN (vs := [.int .i64 0, .string (bstr [])]) rfl rfl sz_40 (ones rfl) (by repeat (first | exact Sub.one | apply Sub.there | apply Sub.far)) (by rfl) (by rfl) ?_)
                            refine TL.cons rfl (V1.t (V1.assign' (by (conv => lhs; whnf) <;> rfl)) ?_)
                            refine TL.nil ?_
                            refine T.seq ?_
                            refine T.region ?_
                            refine TL.cons rfl (V1.t (V1.move' (by (conv => lhs; whnf) <;> rfl)) ?_)
                            refine TL.cons rfl (T1.callX (X := [(⟨bd, 0, [.slice (some ⟨ba, 0, none⟩) a4.length a4.length, .int .i64 (-1)], 2⟩ : Blk), (⟨ba, 0, List.map byteV a4, a4.length⟩ : Blk)]) has_9 rfl (Open_any _ bd ba 200 a4 (-1) (by omega) (by decide) (by decide)) (by repeat (first | exact Take.nil | apply Take.one (by repeat (first | exact Pick.here | apply Pick.there | apply Pick.far)) | apply Take.seg (by repeat (first | exact PickS.last | exact PickS.one | exact PickS.here | exact PickS.nil | apply PickS.there | apply PickS.far)) | exact Take.last (by repeat (first | exact PickS.last | exact PickS.one | exact PickS.here | exact PickS.nil | apply PickS.there | apply PickS.far)))) (fun v_ Y_ hY => ?_))
                            rw [← ho] at hY
                            obtain ⟨rfl, rfl⟩ := hY
                            simp only [List.append_assoc, List.cons_append, List.nil_append]
                            refine TL.cons rfl (V1.t (V1.move' (by (conv => lhs; whnf) <;> rfl)) ?_)
                            refine TL.cons rfl (V1.t (V1.extract rfl (by rfl)) ?_)
                            refine TL.cons rfl (V1.t (V1.extract rfl (by rfl)) ?_)
                            refine TL.cons rfl (V1.t (V1.assign' (by (conv => lhs; whnf) <;> rfl)) ?_)
                            refine TL.cons rfl (V1.t (V1.assign' (by (conv => lhs; whnf) <;> rfl)) ?_)
                            refine TL.nil ?_
                            refine T.seq ?_
                            refine T.live (l := [(15, _), (16, _), (17, _)]) (.cons (by (conv => lhs; whnf) <;> rfl) (.cons (by (conv => lhs; whnf) <;> rfl) (.cons (by (conv => lhs; whnf) <;> rfl) .nil))) (fun e_ => ?_)
                            refine T.region ?_
                            refine TL.cons rfl (V1.t (V1.move' (by (conv => lhs; whnf) <;> rfl)) ?_)
                            refine TL.cons rfl (V1.t (V1.move' (by (conv => lhs; whnf) <;> rfl)) ?_)
                            refine TL.cons rfl (V1.t (V1.eqI rfl rfl (decide_eq_true (by omega))) ?_)
                            refine TL.cons rfl (V1.t (V1.move' (by (conv => lhs; whnf) <;> rfl)) ?_)
                            refine TL.cons rfl (V1.t (V1.move' (by (conv => lhs; whnf) <;> rfl)) ?_)
                            refine TL.cons rfl (V1.t (V1.eqNil0 ty_29 rfl rfl) ?_)
                            refine TL.cons rfl (V1.t (V1.move' (by (conv => lhs; whnf) <;> rfl)) ?_)
                            refine TL.cons rfl (V1.t (V1.neI rfl rfl (decide_eq_true (by omega))) ?_)
                            refine TL.cons rfl (V1.t (V1.eqB ty_4 rfl rfl rfl) ?_)
                            refine TL.cons rfl (V1.t (V1.pick rfl (by (conv => lhs; whnf) <;> rfl)) ?_)
                            refine TL.cons rfl (V1.t (V1.assign' (by (conv => lhs; whnf) <;> rfl)) ?_)
                            refine TL.nil ?_
                            refine T.ret ?_
                            exact ⟨_, [], _, .cons (.tmp (by (conv => lhs; whnf) <;> rfl)) .nil, Take.nil, rfl⟩
                          ·
                            obtain rfl : v_ = .tuple #[.agg #[.int .i64 (n4 : Nat), .string (bstr v4)], .int .i64 0] := hv
                            refine TL.cons rfl (V1.t (V1.move' (by (conv => lhs; whnf) <;> rfl)) ?_)
                            refine TL.cons rfl (V1.t (V1.extract rfl (by rfl)) ?_)
                            refine TL.cons rfl (V1.t (V1.extract rfl (by rfl)) ?_)
                            refine TL.cons rfl (T1.allocN 2 zr_40 rfl (fun b14 => ?_))
                            refine TL.cons rfl (T1.storeN (vs := [.int .i64 (n4 : Nat), .string (bstr v4)]) rfl rfl sz_40 (ones rfl) (by repeat (first | exact Sub.one | apply Sub.there | apply Sub.far)) (by rfl) (by rfl) ?_)
                            refine TL.cons rfl (V1.t (V1.assign' (by (conv => lhs; whnf) <;> rfl)) ?_)
                            refine TL.nil ?_
                            refine T.seq ?_
                            refine T.region ?_
                            refine TL.cons rfl (V1.t (V1.move' (by (conv => lhs; whnf) <;> rfl)) ?_)
                            refine TL.cons rfl (T1.callX (X := [(⟨bd, 0, [.slice (some ⟨ba, 0, none⟩) a4.length a4.length, .int .i64 (-1)], 2⟩ : Blk), (⟨ba, 0, List.map byteV a4, a4.length⟩ : Blk)]) has_9 rfl (Open_any _ bd ba 200 a4 (-1) (by omega) (by decide) (by decide)) (by repeat (first | exact Take.nil | apply Take.one (by repeat (first | exact Pick.here | apply Pick.there | apply Pick.far)) | apply Take.seg (by repeat (first | exact PickS.last | exact PickS.one | exact PickS.here | exact PickS.nil | apply PickS.there | apply PickS.far)) | exact Take.last (by repeat (first | exact PickS.last | exact PickS.one | exact PickS.here | exact PickS.nil | apply PickS.there | apply PickS.far)))) (fun v_ Y_ hY => ?_))
                            rw [← ho] at hY
                            obtain ⟨bc4, Z4, rfl, hc4, rfl⟩ := hY
                            simp only [List.append_assoc, List.cons_append, List.nil_append]
                            refine TL.cons rfl (V1.t (V1.move' (by (conv => lhs; whnf) <;> rfl)) ?_)
                            refine TL.cons rfl (V1.t (V1.extract rfl (by rfl)) ?_)
                            refine TL.cons rfl (V1.t (V1.extract rfl (by rfl)) ?_)
                            refine TL.cons rfl (V1.t (V1.assign' (by (conv => lhs; whnf) <;> rfl)) ?_)
                            refine TL.cons rfl (V1.t (V1.assign' (by (conv => lhs; whnf) <;> rfl)) ?_)
                            refine TL.nil ?_
                            refine T.seq ?_
                            refine T.live (l := [(15, _), (16, _), (17, _)]) (.cons (by (conv => lhs; whnf) <;> rfl) (.cons (by (conv => lhs; whnf) <;> rfl) (.cons (by (conv => lhs; whnf) <;> rfl) .nil))) (fun e_ => ?_)
                            refine T.region ?_
                            refine TL.cons rfl (V1.t (V1.move' (by (conv => lhs; whnf) <;> rfl)) ?_)
                            refine TL.cons rfl (V1.t (V1.move' (by (conv => lhs; whnf) <;> rfl)) ?_)
                            refine TL.cons rfl (V1.t (V1.eqI rfl rfl (decide_eq_true (by omega))) ?_)
                            refine TL.cons rfl (V1.t (V1.move' (by (conv => lhs; whnf) <;> rfl)) ?_)
                            refine TL.cons rfl (V1.t (V1.move' (by (conv => lhs; whnf) <;> rfl)) ?_)
                            refine TL.cons rfl (V1.t (V1.eqNil ty_29 rfl rfl) ?_)
                            refine TL.cons rfl (V1.t (V1.move' (by (conv => lhs; whnf) <;> rfl)) ?_)
                            refine TL.cons rfl (V1.t (V1.neI rfl rfl (decide_eq_false (by omega))) ?_)
                            refine TL.cons rfl (V1.t (V1.eqB ty_4 rfl rfl rfl) ?_)
                            refine TL.cons rfl (V1.t (V1.pick rfl (by (conv => lhs; whnf) <;> rfl)) ?_)
                            refine TL.cons rfl (V1.t (V1.assign' (by (conv => lhs; whnf) <;> rfl)) ?_)
                            refine TL.nil ?_
                            refine T.ret ?_
                            exact ⟨_, [], _, .cons (.tmp (by (conv => lhs; whnf) <;> rfl)) .nil, Take.nil, rfl⟩

end Go.Proofs.Ytmolpgnekcfimaa.S
