/- A byte of a record spoilt, the other one is had again. -/
import Derived.Test.YtmolpgnekcfimaaCB
namespace Go.Proofs.Ytmolpgnekcfimaa.S
open Go.RowKit

open Sh

set_option maxRecDepth 100000 in
set_option maxHeartbeats 4000000 in
theorem CellBefore_any (va vb vc : Value) (pa pb pc : List UInt8) (at_ : Int) (lst : Bool) (w0 : World) (hpa : InR w0 va pa) (hpb : InR w0 vb pb) (hpc : InR w0 vc pc) : Fn P 6 [.agg #[va, vb, vc], .int .i64 at_, .bool lst] w0 [] (fun v _ => v = .bool true) := by
  obtain ⟨ga, gc, rfl⟩ := hpa.form
  obtain ⟨ka, kc, rfl⟩ := hpb.form
  obtain ⟨la, lc, rfl⟩ := hpc.form
  refine Fn.of 132 [.tmp 6] Go.Proofs.Try.func6 rfl rfl rfl rfl ?_
  refine T.seq ?_
  refine T.region ?_
  refine TL.cons rfl (T1.boxN (vs := [.slice ga pa.length gc, .slice ka pb.length kc, .slice la pc.length lc]) 3 rfl rfl (fun b3 => ?_))
  refine TL.cons rfl (V1.t (V1.assign' (by (conv => lhs; whnf) <;> rfl)) ?_)
  refine TL.nil ?_
  refine T.seq ?_
  refine T.seq ?_
  refine T.region ?_
  refine TL.cons rfl (T1.call0 has_7 rfl (fun w hs => keeps_any w) (fun v hv => ?_))
  obtain rfl := hv
  refine TL.cons rfl (V1.t (V1.not rfl rfl) ?_)
  refine TL.nil ?_
  refine T.cond_f rfl ?_
  refine T.skip ?_
  refine T.seq ?_
  refine T.region ?_
  refine TL.cons rfl (T1.callN has_8 rfl (fun w hs => NewDiskD 200 w (by decide) (by decide)) (fun v Y hY => ?_))
  obtain ⟨bd, ba, a, rfl, hd, -, rfl⟩ := hY
  have ha2 : a.length = 2 * 200 := hd.1
  have hal : a.length ≤ 1000000 := by omega
  simp only [List.cons_append, List.nil_append]
  refine TL.cons rfl (V1.t (V1.move' (by (conv => lhs; whnf) <;> rfl)) ?_)
  refine TL.cons rfl (V1.t (V1.extract rfl (by rfl)) ?_)
  refine TL.cons rfl (V1.t (V1.extract rfl (by rfl)) ?_)
  refine TL.cons rfl (V1.t (V1.assign' (by (conv => lhs; whnf) <;> rfl)) ?_)
  refine TL.cons rfl (V1.t (V1.assign' (by (conv => lhs; whnf) <;> rfl)) ?_)
  refine TL.nil ?_
  refine T.seq ?_
  refine T.seq ?_
  refine T.region ?_
  refine TL.cons rfl (V1.t (V1.move' (by (conv => lhs; whnf) <;> rfl)) ?_)
  refine TL.cons rfl (V1.t (V1.eqNil ty_25 rfl rfl) ?_)
  refine TL.nil ?_
  refine T.cond_f rfl ?_
  refine T.skip ?_
  refine T.seq ?_
  refine T.region ?_
  refine TL.cons rfl (V1.t (V1.move' (by (conv => lhs; whnf) <;> rfl)) ?_)
  refine TL.cons rfl (T1.callX (X := [(⟨bd, 0, [.slice (some ⟨ba, 0, none⟩) a.length a.length, .int .i64 (-1)], 2⟩ : Blk), (⟨ba, 0, List.map byteV a, a.length⟩ : Blk)]) has_9 rfl (OpenD _ bd ba 200 0 [] a (-1) hd (by decide) (by decide) (by omega) (by first | omega | decide)) (by repeat (first | exact Take.nil | apply Take.one (by repeat (first | exact Pick.here | apply Pick.there | apply Pick.far)) | apply Take.seg (by repeat (first | exact PickS.last | exact PickS.one | exact PickS.here | exact PickS.nil | apply PickS.there | apply PickS.far)) | exact Take.last (by repeat (first | exact PickS.last | exact PickS.one | exact PickS.here | exact PickS.nil | apply PickS.there | apply PickS.far)))) (fun v_ Y_ hY => ?_))
  obtain ⟨bc, Z, rfl, hc, rfl⟩ := hY
  simp only [List.append_assoc, List.cons_append, List.nil_append]
  refine TL.cons rfl (V1.t (V1.move' (by (conv => lhs; whnf) <;> rfl)) ?_)
  refine TL.cons rfl (V1.t (V1.extract rfl (by rfl)) ?_)
  refine TL.cons rfl (V1.t (V1.extract rfl (by rfl)) ?_)
  refine TL.cons rfl (V1.t (V1.assign' (by (conv => lhs; whnf) <;> rfl)) ?_)
  refine TL.cons rfl (V1.t (V1.assign' (by (conv => lhs; whnf) <;> rfl)) ?_)
  refine TL.nil ?_
  refine T.seq ?_
  refine T.seq ?_
  refine T.live (l := [(1, _), (2, _), (3, _), (7, _), (9, _)]) (.cons (by (conv => lhs; whnf) <;> rfl) (.cons (by (conv => lhs; whnf) <;> rfl) (.cons (by (conv => lhs; whnf) <;> rfl) (.cons (by (conv => lhs; whnf) <;> rfl) (.cons (by (conv => lhs; whnf) <;> rfl) .nil))))) (fun e_ => ?_)
  refine T.region ?_
  refine TL.cons rfl (V1.t (V1.move' (by (conv => lhs; whnf) <;> rfl)) ?_)
  refine TL.cons rfl (V1.t (V1.eqNil ty_29 rfl rfl) ?_)
  refine TL.nil ?_
  refine T.cond_f rfl ?_
  refine T.skip ?_
  refine T.seq ?_
  refine T.seq ?_
  refine T.region ?_
  refine TL.cons rfl (V1.t (V1.loadN (vs := [.slice ga pa.length gc, .slice ka pb.length kc, .slice la pc.length lc]) one_50 sz_50 rfl (RdN.whole (by repeat (first | exact Find.here | assumption | apply Find.there | apply Find.far))) (by rfl)) ?_)
  refine TL.cons rfl (V1.t (V1.move' (by (conv => lhs; whnf) <;> rfl)) ?_)
  refine TL.nil ?_
  refine T.block ?_
  refine T.rounds 4 (TR.step ?_)
  refine T.seq ?_
  refine T.region ?_
  refine TL.cons rfl (V1.t (V1.ltI rfl rfl (decide_eq_true (by omega))) ?_)
  ·
    refine TL.nil ?_
    refine T.seq ?_
    refine T.cond_t rfl ?_
    refine T.skip ?_
    refine T.seq ?_
    refine T.block ?_
    refine T.seq ?_
    refine T.region ?_
    refine TL.cons rfl (V1.t (V1.indexA (i := 0) ty_50 sz_33 rfl rfl (by decide) (by decide) (fun w => run_part1 one_33 (show (#[.slice ga pa.length gc, .slice ka pb.length kc, .slice la pc.length lc] : Array Value)[0]? = some (.slice ga pa.length gc) from rfl) w)) ?_)
    refine TL.cons rfl (V1.t (V1.assign' (by (conv => lhs; whnf) <;> rfl)) ?_)
    refine TL.nil ?_
    refine T.seq ?_
    refine T.seq ?_
    refine T.region ?_
    refine TL.cons rfl (V1.t (V1.move' (by (conv => lhs; whnf) <;> rfl)) ?_)
    refine TL.cons rfl (V1.t (V1.lenSl ty_33 rfl) ?_)
    refine TL.cons rfl (T1.gtI_split rfl rfl (fun h12 => ?_) (fun h12 => ?_))
    ·
      refine TL.nil ?_
      refine T.cond_t rfl ?_
      refine T.seq ?_
      refine T.region ?_
      refine TL.cons rfl (V1.t (V1.assign' (by (conv => lhs; whnf) <;> rfl)) ?_)
      refine TL.nil ?_
      refine T.ret ?_
      exact ⟨_, [], _, .cons (.tmp (by (conv => lhs; whnf) <;> rfl)) .nil, Take.nil, rfl⟩
    ·
      refine TL.nil ?_
      refine T.cond_f rfl ?_
      refine T.skip ?_
      refine T.seq ?_
      refine T.region ?_
      refine TL.cons rfl (V1.t (V1.move' (by (conv => lhs; whnf) <;> rfl)) ?_)
      refine TL.cons rfl (V1.t (V1.move' (by (conv => lhs; whnf) <;> rfl)) ?_)
      refine TL.cons rfl (T1.buildSl1 (os := [.tmp 42]) (vs := [.slice ga pa.length gc]) ty_22 sz_33 zr_33 (by decide) rfl (.cons rfl .nil) rfl (ones rfl) (fun b43 => ?_))
      refine TL.cons rfl (T1.callX (X := Z ++ ((⟨bd, 0, [.slice (some ⟨ba, 0, none⟩) a.length a.length, .int .i64 (-1)], 2⟩ : Blk) :: (⟨ba, 0, List.map byteV a, a.length⟩ : Blk) :: [(⟨b43, 0, [.slice ga pa.length gc], 1⟩ : Blk)])) has_10 rfl (KeepD2 _ bc bd ba 200 0 _ [] a [pa] Z [(⟨b43, 0, [.slice ga pa.length gc], 1⟩ : Blk)] hc hd (by decide) (PartsR.ones (svs := [.slice ga pa.length gc]) (size := 1) (List.mem_cons_self ..) rfl (one_part hpa.part)) (show 1 ≤ 9223372036854775807 by decide) (by decide) (by decide) (by rw [show ([pa] : List (List UInt8)).flatten = pa from by simp]; omega)) (by repeat (first | exact Take.nil | apply Take.one (by repeat (first | exact Pick.here | apply Pick.there | apply Pick.far)) | apply Take.seg (by repeat (first | exact PickS.last | exact PickS.one | exact PickS.here | exact PickS.nil | apply PickS.there | apply PickS.far)) | exact Take.last (by repeat (first | exact PickS.last | exact PickS.one | exact PickS.here | exact PickS.nil | apply PickS.there | apply PickS.far)))) (fun v_ Y_ hY => ?_))
      rw [show ([pa] : List (List UInt8)).flatten = pa from by simp] at hY
      obtain ⟨rfl, Z1, a1, hal1, hd1, hpl1, hc1, rfl⟩ := hY
      replace hd1 : DiskOf 200 1 pa a1 := hd1
      replace hc1 : Cl bc bd 1 pa Z1 := hc1
      simp only [List.append_assoc, List.cons_append, List.nil_append]
      refine TL.cons rfl (V1.t (V1.neI rfl rfl (decide_eq_false (by omega))) ?_)
      refine TL.nil ?_
      refine T.cond_f rfl ?_
      refine T.skip ?_
      refine T.live (l := [(1, _), (2, _), (3, _), (7, _), (9, _), (34, _), (35, _)]) (.cons (by (conv => lhs; whnf) <;> rfl) (.cons (by (conv => lhs; whnf) <;> rfl) (.cons (by (conv => lhs; whnf) <;> rfl) (.cons (by (conv => lhs; whnf) <;> rfl) (.cons (by (conv => lhs; whnf) <;> rfl) (.cons (by (conv => lhs; whnf) <;> rfl) (.cons (by (conv => lhs; whnf) <;> rfl) .nil))))))) (fun e_ => ?_)
      refine T.region ?_
      refine TL.cons rfl (V1.t (V1.add (c := 1) rfl rfl (by decide)) ?_)
      refine TL.cons rfl (V1.t (V1.move' (by (conv => lhs; whnf) <;> rfl)) ?_)
      refine TL.nil ?_
      refine TR.step ?_
      refine T.seq ?_
      refine T.region ?_
      refine TL.cons rfl (V1.t (V1.ltI rfl rfl (decide_eq_true (by omega))) ?_)
      ·
        refine TL.nil ?_
        refine T.seq ?_
        refine T.cond_t rfl ?_
        refine T.skip ?_
        refine T.seq ?_
        refine T.block ?_
        refine T.seq ?_
        refine T.region ?_
        refine TL.cons rfl (V1.t (V1.indexA (i := 1) ty_50 sz_33 rfl rfl (by decide) (by decide) (fun w => run_part1 one_33 (show (#[.slice ga pa.length gc, .slice ka pb.length kc, .slice la pc.length lc] : Array Value)[1]? = some (.slice ka pb.length kc) from rfl) w)) ?_)
        refine TL.cons rfl (V1.t (V1.assign' (by (conv => lhs; whnf) <;> rfl)) ?_)
        refine TL.nil ?_
        refine T.seq ?_
        refine T.seq ?_
        refine T.region ?_
        refine TL.cons rfl (V1.t (V1.move' (by (conv => lhs; whnf) <;> rfl)) ?_)
        refine TL.cons rfl (V1.t (V1.lenSl ty_33 rfl) ?_)
        refine TL.cons rfl (T1.gtI_split rfl rfl (fun h12 => ?_) (fun h12 => ?_))
        ·
          refine TL.nil ?_
          refine T.cond_t rfl ?_
          refine T.seq ?_
          refine T.region ?_
          refine TL.cons rfl (V1.t (V1.assign' (by (conv => lhs; whnf) <;> rfl)) ?_)
          refine TL.nil ?_
          refine T.ret ?_
          exact ⟨_, [], _, .cons (.tmp (by (conv => lhs; whnf) <;> rfl)) .nil, Take.nil, rfl⟩
        ·
          refine TL.nil ?_
          refine T.cond_f rfl ?_
          refine T.skip ?_
          refine T.seq ?_
          refine T.region ?_
          refine TL.cons rfl (V1.t (V1.move' (by (conv => lhs; whnf) <;> rfl)) ?_)
          refine TL.cons rfl (V1.t (V1.move' (by (conv => lhs; whnf) <;> rfl)) ?_)
          refine TL.cons rfl (T1.buildSl1 (os := [.tmp 42]) (vs := [.slice ka pb.length kc]) ty_22 sz_33 zr_33 (by decide) rfl (.cons rfl .nil) rfl (ones rfl) (fun b43 => ?_))
          refine TL.cons rfl (T1.callX (X := Z1 ++ ((⟨bd, 0, [.slice (some ⟨ba, 0, none⟩) a1.length a1.length, .int .i64 (-1)], 2⟩ : Blk) :: (⟨ba, 0, List.map byteV a1, a1.length⟩ : Blk) :: [(⟨b43, 0, [.slice ka pb.length kc], 1⟩ : Blk)])) has_10 rfl (KeepD2 _ bc bd ba 200 1 _ pa a1 [pb] Z1 [(⟨b43, 0, [.slice ka pb.length kc], 1⟩ : Blk)] hc1 hd1 (by decide) (PartsR.ones (svs := [.slice ka pb.length kc]) (size := 1) (List.mem_cons_self ..) rfl (one_part hpb.part)) (show 1 ≤ 9223372036854775807 by decide) (by decide) (by decide) (by rw [show ([pb] : List (List UInt8)).flatten = pb from by simp]; omega)) (by repeat (first | exact Take.nil | apply Take.one (by repeat (first | exact Pick.here | apply Pick.there | apply Pick.far)) | apply Take.seg (by repeat (first | exact PickS.last | exact PickS.one | exact PickS.here | exact PickS.nil | apply PickS.there | apply PickS.far)) | exact Take.last (by repeat (first | exact PickS.last | exact PickS.one | exact PickS.here | exact PickS.nil | apply PickS.there | apply PickS.far)))) (fun v_ Y_ hY => ?_))
          rw [show ([pb] : List (List UInt8)).flatten = pb from by simp] at hY
          obtain ⟨rfl, Z2, a2, hal2, hd2, hpl2, hc2, rfl⟩ := hY
          replace hd2 : DiskOf 200 2 pb a2 := hd2
          replace hc2 : Cl bc bd 2 pb Z2 := hc2
          simp only [List.append_assoc, List.cons_append, List.nil_append]
          refine TL.cons rfl (V1.t (V1.neI rfl rfl (decide_eq_false (by omega))) ?_)
          refine TL.nil ?_
          refine T.cond_f rfl ?_
          refine T.skip ?_
          refine T.region ?_
          refine TL.cons rfl (V1.t (V1.add (c := 2) rfl rfl (by decide)) ?_)
          refine TL.cons rfl (V1.t (V1.move' (by (conv => lhs; whnf) <;> rfl)) ?_)
          refine TL.nil ?_
          refine TR.step ?_
          refine T.seq ?_
          refine T.live (l := [(1, _), (2, _), (3, _), (7, _), (9, _), (34, _), (35, _)]) (.cons (by (conv => lhs; whnf) <;> rfl) (.cons (by (conv => lhs; whnf) <;> rfl) (.cons (by (conv => lhs; whnf) <;> rfl) (.cons (by (conv => lhs; whnf) <;> rfl) (.cons (by (conv => lhs; whnf) <;> rfl) (.cons (by (conv => lhs; whnf) <;> rfl) (.cons (by (conv => lhs; whnf) <;> rfl) .nil))))))) (fun e_ => ?_)
          refine T.region ?_
          refine TL.cons rfl (V1.t (V1.ltI rfl rfl (decide_eq_true (by omega))) ?_)
          ·
            refine TL.nil ?_
            refine T.seq ?_
            refine T.cond_t rfl ?_
            refine T.skip ?_
            refine T.seq ?_
            refine T.block ?_
            refine T.seq ?_
            refine T.region ?_
            refine TL.cons rfl (V1.t (V1.indexA (i := 2) ty_50 sz_33 rfl rfl (by decide) (by decide) (fun w => run_part1 one_33 (show (#[.slice ga pa.length gc, .slice ka pb.length kc, .slice la pc.length lc] : Array Value)[2]? = some (.slice la pc.length lc) from rfl) w)) ?_)
            refine TL.cons rfl (V1.t (V1.assign' (by (conv => lhs; whnf) <;> rfl)) ?_)
            refine TL.nil ?_
            refine T.seq ?_
            refine T.seq ?_
            refine T.region ?_
            refine TL.cons rfl (V1.t (V1.move' (by (conv => lhs; whnf) <;> rfl)) ?_)
            refine TL.cons rfl (V1.t (V1.lenSl ty_33 rfl) ?_)
            refine TL.cons rfl (T1.gtI_split rfl rfl (fun h12 => ?_) (fun h12 => ?_))
            ·
              refine TL.nil ?_
              refine T.cond_t rfl ?_
              refine T.seq ?_
              refine T.region ?_
              refine TL.cons rfl (V1.t (V1.assign' (by (conv => lhs; whnf) <;> rfl)) ?_)
              refine TL.nil ?_
              refine T.ret ?_
              exact ⟨_, [], _, .cons (.tmp (by (conv => lhs; whnf) <;> rfl)) .nil, Take.nil, rfl⟩
            ·
              refine TL.nil ?_
              refine T.cond_f rfl ?_
              refine T.skip ?_
              refine T.seq ?_
              refine T.region ?_
              refine TL.cons rfl (V1.t (V1.move' (by (conv => lhs; whnf) <;> rfl)) ?_)
              refine TL.cons rfl (V1.t (V1.move' (by (conv => lhs; whnf) <;> rfl)) ?_)
              refine TL.cons rfl (T1.buildSl1 (os := [.tmp 42]) (vs := [.slice la pc.length lc]) ty_22 sz_33 zr_33 (by decide) rfl (.cons rfl .nil) rfl (ones rfl) (fun b43 => ?_))
              refine TL.cons rfl (T1.callX (X := Z2 ++ ((⟨bd, 0, [.slice (some ⟨ba, 0, none⟩) a2.length a2.length, .int .i64 (-1)], 2⟩ : Blk) :: (⟨ba, 0, List.map byteV a2, a2.length⟩ : Blk) :: [(⟨b43, 0, [.slice la pc.length lc], 1⟩ : Blk)])) has_10 rfl (KeepD2 _ bc bd ba 200 2 _ pb a2 [pc] Z2 [(⟨b43, 0, [.slice la pc.length lc], 1⟩ : Blk)] hc2 hd2 (by decide) (PartsR.ones (svs := [.slice la pc.length lc]) (size := 1) (List.mem_cons_self ..) rfl (one_part hpc.part)) (show 1 ≤ 9223372036854775807 by decide) (by decide) (by decide) (by rw [show ([pc] : List (List UInt8)).flatten = pc from by simp]; omega)) (by repeat (first | exact Take.nil | apply Take.one (by repeat (first | exact Pick.here | apply Pick.there | apply Pick.far)) | apply Take.seg (by repeat (first | exact PickS.last | exact PickS.one | exact PickS.here | exact PickS.nil | apply PickS.there | apply PickS.far)) | exact Take.last (by repeat (first | exact PickS.last | exact PickS.one | exact PickS.here | exact PickS.nil | apply PickS.there | apply PickS.far)))) (fun v_ Y_ hY => ?_))
              rw [show ([pc] : List (List UInt8)).flatten = pc from by simp] at hY
              obtain ⟨rfl, Z3, a3, hal3, hd3, hpl3, hc3, rfl⟩ := hY
              replace hd3 : DiskOf 200 3 pc a3 := hd3
              replace hc3 : Cl bc bd 3 pc Z3 := hc3
              simp only [List.append_assoc, List.cons_append, List.nil_append]
              refine TL.cons rfl (V1.t (V1.neI rfl rfl (decide_eq_false (by omega))) ?_)
              refine TL.nil ?_
              refine T.cond_f rfl ?_
              refine T.skip ?_
              refine T.region ?_
              refine TL.cons rfl (V1.t (V1.add (c := 3) rfl rfl (by decide)) ?_)
              refine TL.cons rfl (V1.t (V1.move' (by (conv => lhs; whnf) <;> rfl)) ?_)
              refine TL.nil ?_
              refine TR.step ?_
              refine T.seq ?_
              refine T.region ?_
              refine TL.cons rfl (V1.t (V1.ltI rfl rfl (decide_eq_false (by omega))) ?_)
              ·
                refine TL.nil ?_
                refine T.seq ?_
                refine T.cond_f rfl ?_
                refine T.exit ?_
                refine T.seq ?_
                refine T.region ?_
                refine TL.cons rfl (V1.t (V1.indexAddrA ty_50 sz_33 rfl rfl (by decide) (by decide)) ?_)
                refine TL.cons rfl (V1.t (V1.load1 one_33 rfl (.own (cells := [.slice ga pa.length gc, .slice ka pb.length kc, .slice la pc.length lc]) (by repeat (first | exact Find.here | assumption | apply Find.there | apply Find.far)) (by rfl))) ?_)
                refine TL.cons rfl (V1.t (V1.lenSl ty_33 rfl) ?_)
                refine TL.cons rfl (V1.t (V1.add (c := ((44 + pb.length : Nat) : Int)) rfl rfl (by rw [wrap_i64 _ (by omega) (by omega)]; omega)) ?_)
                refine TL.cons rfl (V1.t (V1.assign' (by (conv => lhs; whnf) <;> rfl)) ?_)
                refine TL.cons rfl (V1.t (V1.assign' rfl) ?_)
                have ha32 : a3.length = 2 * 200 := hd3.1
                cases lst
                ·
                  refine TL.nil ?_
                  refine T.seq ?_
                  refine T.seq ?_
                  refine T.live (l := [(1, _), (2, _), (3, _), (7, _), (13, _), (14, _)]) (.cons (by (conv => lhs; whnf) <;> rfl) (.cons (by (conv => lhs; whnf) <;> rfl) (.cons (by (conv => lhs; whnf) <;> rfl) (.cons (by (conv => lhs; whnf) <;> rfl) (.cons (by (conv => lhs; whnf) <;> rfl) (.cons (by (conv => lhs; whnf) <;> rfl) .nil)))))) (fun e_ => ?_)
                  refine T.region ?_
                  refine TL.cons rfl (V1.t (V1.move' (by (conv => lhs; whnf) <;> rfl)) ?_)
                  refine TL.nil ?_
                  refine T.cond_f rfl ?_
                  refine T.skip ?_
                  refine T.seq ?_
                  refine T.seq ?_
                  refine T.region ?_
                  refine TL.cons rfl (V1.t (V1.move' (by (conv => lhs; whnf) <;> rfl)) ?_)
                  refine TL.cons rfl (T1.ltI_split rfl rfl (fun h20 => ?_) (fun h20 => ?_))
                  ·
                    refine TL.cons rfl (V1.t (V1.move' (by (conv => lhs; whnf) <;> rfl)) ?_)
                    refine TL.no rfl ?_
                    refine TL.no rfl ?_
                    refine TL.no rfl ?_
                    refine TL.cons rfl (V1.t (V1.pick rfl (by (conv => lhs; whnf) <;> rfl)) ?_)
                    refine TL.nil ?_
                    refine T.cond_t rfl ?_
                    refine T.seq ?_
                    refine T.region ?_
                    refine TL.cons rfl (V1.t (V1.assign' (by (conv => lhs; whnf) <;> rfl)) ?_)
                    refine TL.nil ?_
                    refine T.ret ?_
                    exact ⟨_, [], _, .cons (.tmp (by (conv => lhs; whnf) <;> rfl)) .nil, Take.nil, rfl⟩
                  ·
                    refine TL.cons rfl (V1.t (V1.move' (by (conv => lhs; whnf) <;> rfl)) ?_)
                    refine TL.cons rfl (V1.t (V1.move' (by (conv => lhs; whnf) <;> rfl)) ?_)
                    refine TL.cons rfl (V1.t (V1.move' (by (conv => lhs; whnf) <;> rfl)) ?_)
                    refine TL.cons rfl (T1.geI_split rfl rfl (fun h20b => ?_) (fun h20b => ?_))
                    ·
                      refine TL.cons rfl (V1.t (V1.pick rfl (by (conv => lhs; whnf) <;> rfl)) ?_)
                      refine TL.nil ?_
                      refine T.cond_t rfl ?_
                      refine T.seq ?_
                      refine T.region ?_
                      refine TL.cons rfl (V1.t (V1.assign' (by (conv => lhs; whnf) <;> rfl)) ?_)
                      refine TL.nil ?_
                      refine T.ret ?_
                      exact ⟨_, [], _, .cons (.tmp (by (conv => lhs; whnf) <;> rfl)) .nil, Take.nil, rfl⟩
                    ·
                      obtain ⟨m, rfl⟩ : ∃ m : Nat, at_ = m := ⟨at_.toNat, by omega⟩
                      obtain ⟨x, hx⟩ : ∃ z, a3[m]? = some z := ⟨_, List.getElem?_eq_getElem (by omega)⟩
                      refine TL.cons rfl (V1.t (V1.pick rfl (by (conv => lhs; whnf) <;> rfl)) ?_)
                      refine TL.nil ?_
                      refine T.cond_f rfl ?_
                      refine T.skip ?_
                      refine T.seq ?_
                      refine T.seq ?_
                      refine T.region ?_
                      refine TL.cons rfl (V1.t (V1.move' (by (conv => lhs; whnf) <;> rfl)) ?_)
                      refine TL.cons rfl (V1.t (V1.move' (by (conv => lhs; whnf) <;> rfl)) ?_)
                      refine TL.cons rfl (V1.t (V1.move' (by (conv => lhs; whnf) <;> rfl)) ?_)
                      refine TL.cons rfl (V1.t (V1.add (c := ((m : Nat) : Int)) rfl rfl (by rw [wrap_i64 _ (by omega) (by omega)]; omega)) ?_)
                      refine TL.cons rfl (V1.t (V1.move' (by (conv => lhs; whnf) <;> rfl)) ?_)
                      refine TL.cons rfl (T1.callX (X := [(⟨bd, 0, [.slice (some ⟨ba, 0, none⟩) a3.length a3.length, .int .i64 (-1)], 2⟩ : Blk), (⟨ba, 0, List.map byteV a3, a3.length⟩ : Blk)]) has_16 rfl (Bytes_any _ bd ba a3 (-1) (by omega)) (by repeat (first | exact Take.nil | apply Take.one (by repeat (first | exact Pick.here | apply Pick.there | apply Pick.far)) | apply Take.seg (by repeat (first | exact PickS.last | exact PickS.one | exact PickS.here | exact PickS.nil | apply PickS.there | apply PickS.far)) | exact Take.last (by repeat (first | exact PickS.last | exact PickS.one | exact PickS.here | exact PickS.nil | apply PickS.there | apply PickS.far)))) (fun v_ Y_ hY => ?_))
                      obtain ⟨Lw, rfl, hsw⟩ := hY
                      simp only [List.append_assoc, List.cons_append, List.nil_append]
                      obtain ⟨bw, ow, cw, zw, rfl, hcw, hzw, rfl⟩ := hsw.block (by intro h; have h9 := congrArg List.length h; rw [List.length_map, List.length_nil] at h9; omega)
                      simp only [List.length_map, List.append_assoc, List.cons_append, List.nil_append]
                      refine TL.cons rfl (V1.t (V1.move' (by (conv => lhs; whnf) <;> rfl)) ?_)
                      refine TL.cons rfl (V1.t (V1.move' (by (conv => lhs; whnf) <;> rfl)) ?_)
                      refine TL.cons rfl (V1.t (V1.add (c := ((m : Nat) : Int)) rfl rfl (by rw [wrap_i64 _ (by omega) (by omega)]; omega)) ?_)
                      refine TL.cons rfl (V1.t (V1.indexAddrS ty_33 sz_5 rfl rfl (by omega) (by omega)) ?_)
                      refine TL.cons rfl (V1.t (V1.load1 one_5 rfl (show Rd _ _ ⟨bw, ow + (m) * 1, none⟩ (byteV x) from by rw [Nat.mul_one]; exact Rd.at (cells := List.map byteV a3) (by repeat (first | exact Find.here | assumption | apply Find.there | apply Find.far)) (by rw [List.getElem?_map, hx]; rfl))) ?_)
                      refine TL.cons rfl (V1.t (show V1 _ _ _ _ (byteV (x ^^^ 1)) from V1.xorW (a := x.toBitVec) (b := 1#8) u8U rfl rfl) ?_)
                      refine TL.cons rfl (T1.callX (X := [(⟨bd, 0, [.slice (some ⟨ba, 0, none⟩) a3.length a3.length, .int .i64 (-1)], 2⟩ : Blk), (⟨ba, 0, List.map byteV a3, a3.length⟩ : Blk)]) has_17 rfl (PokeD _ bd ba a3 (-1) (m) (x ^^^ 1) (by omega)) (by repeat (first | exact Take.nil | apply Take.one (by repeat (first | exact Pick.here | apply Pick.there | apply Pick.far)) | apply Take.seg (by repeat (first | exact PickS.last | exact PickS.one | exact PickS.here | exact PickS.nil | apply PickS.there | apply PickS.far)) | exact Take.last (by repeat (first | exact PickS.last | exact PickS.one | exact PickS.here | exact PickS.nil | apply PickS.there | apply PickS.far)))) (fun v_ Y_ hY => ?_))
                      obtain ⟨rfl, a4, ha4, hla4, rfl⟩ := hY
                      simp only [List.cons_append, List.nil_append]
                      have h42 : a4.length = 2 * 200 := by have := hd3.1; omega
                      have hhas := disk_has hd3 (b := a4) (by decide) (by decide) (by omega) (by rw [show 3 % 2 = 1 from rfl, ha4, plc_set_other (i := 0) (by decide) (by decide) (by decide) (by omega) (by omega)])
                      have hq0 : (plc 200 0 a4).length = 200 := plc_len (by omega)
                      have hq1 : (plc 200 1 a4).length = 200 := plc_len (by omega)
                      obtain ⟨n4, v4, hop, hn4, hv4⟩ := openP_has hhas
                      have hv44 : v4.length ≤ 200 := by omega
                      refine TL.cons rfl (V1.t (V1.neI rfl rfl (decide_eq_false (by omega))) ?_)
                      refine TL.nil ?_
                      refine T.cond_f rfl ?_
                      refine T.skip ?_
                      refine T.seq ?_
                      refine T.live (l := [(2, _), (3, _), (7, _)]) (.cons (by (conv => lhs; whnf) <;> rfl) (.cons (by (conv => lhs; whnf) <;> rfl) (.cons (by (conv => lhs; whnf) <;> rfl) .nil))) (fun e_ => ?_)
                      refine T.region ?_
                      refine TL.cons rfl (V1.t (V1.move' (by (conv => lhs; whnf) <;> rfl)) ?_)
                      refine TL.cons rfl (T1.callX (X := [(⟨bd, 0, [.slice (some ⟨ba, 0, none⟩) a4.length a4.length, .int .i64 (-1)], 2⟩ : Blk), (⟨ba, 0, List.map byteV a4, a4.length⟩ : Blk)]) has_16 rfl (Bytes_any _ bd ba a4 (-1) (by omega)) (by repeat (first | exact Take.nil | apply Take.one (by repeat (first | exact Pick.here | apply Pick.there | apply Pick.far)) | apply Take.seg (by repeat (first | exact PickS.last | exact PickS.one | exact PickS.here | exact PickS.nil | apply PickS.there | apply PickS.far)) | exact Take.last (by repeat (first | exact PickS.last | exact PickS.one | exact PickS.here | exact PickS.nil | apply PickS.there | apply PickS.far)))) (fun v_ Y_ hY => ?_))
                      obtain ⟨Lb, rfl, hsb⟩ := hY
                      simp only [List.append_assoc, List.cons_append, List.nil_append]
                      refine TL.cons rfl (V1.t (V1.slToStr ty_33 ty_5 ty_9 rfl hsb (by repeat (first | exact Sub.here | exact Sub.last | apply Sub.there | apply Sub.far))) ?_)
                      refine TL.cons rfl (V1.t (V1.buildF pl_44 zr_44 (.one rfl (by (conv => lhs; whnf) <;> rfl) rfl .nil) (by repeat (first | exact FillL.nil | exact SetN.done | apply SetN.here | apply SetN.there | apply FillL.cons))) ?_)
                      refine TL.cons rfl (T1.call0 has_15 rfl (fun w hs => refOpen_any 200 a4 0 w h42 (by decide) (by decide)) (fun v_ hv => ?_))
                      rw [hop] at hv
                      obtain rfl : v_ = .tuple #[.agg #[.int .i64 (n4 : Nat), .string (bstr v4)], .int .i64 0] := hv
                      refine TL.cons rfl (V1.t (V1.move' (by (conv => lhs; whnf) <;> rfl)) ?_)
                      refine TL.cons rfl (V1.t (V1.extract rfl (by rfl)) ?_)
                      refine TL.cons rfl (V1.t (V1.extract rfl (by rfl)) ?_)
                      refine TL.cons rfl (T1.allocN 2 zr_40 rfl (fun b15 => ?_))
                      refine TL.cons rfl (T1.storeN (vs := [.int .i64 (n4 : Nat), .string (bstr v4)]) rfl rfl sz_40 (ones rfl) (by repeat (first | exact Sub.one | apply Sub.there | apply Sub.far)) (by rfl) (by rfl) ?_)
                      refine TL.cons rfl (V1.t (V1.assign' (by (conv => lhs; whnf) <;> rfl)) ?_)
                      refine TL.nil ?_
                      refine T.seq ?_
                      refine T.region ?_
                      refine TL.cons rfl (V1.t (V1.move' (by (conv => lhs; whnf) <;> rfl)) ?_)
                      refine TL.cons rfl (T1.callX (X := [(⟨bd, 0, [.slice (some ⟨ba, 0, none⟩) a4.length a4.length, .int .i64 (-1)], 2⟩ : Blk), (⟨ba, 0, List.map byteV a4, a4.length⟩ : Blk)]) has_9 rfl (Open_any _ bd ba 200 a4 (-1) h42 (by decide) (by decide)) (by repeat (first | exact Take.nil | apply Take.one (by repeat (first | exact Pick.here | apply Pick.there | apply Pick.far)) | apply Take.seg (by repeat (first | exact PickS.last | exact PickS.one | exact PickS.here | exact PickS.nil | apply PickS.there | apply PickS.far)) | exact Take.last (by repeat (first | exact PickS.last | exact PickS.one | exact PickS.here | exact PickS.nil | apply PickS.there | apply PickS.far)))) (fun v_ Y_ hY => ?_))
                      rw [hop] at hY
                      obtain ⟨bc4, Z4, rfl, hc4, rfl⟩ := hY
                      simp only [List.append_assoc, List.cons_append, List.nil_append]
                      refine TL.cons rfl (V1.t (V1.move' (by (conv => lhs; whnf) <;> rfl)) ?_)
                      refine TL.cons rfl (V1.t (V1.extract rfl (by rfl)) ?_)
                      refine TL.cons rfl (V1.t (V1.extract rfl (by rfl)) ?_)
                      refine TL.cons rfl (V1.t (V1.assign' (by (conv => lhs; whnf) <;> rfl)) ?_)
                      refine TL.cons rfl (V1.t (V1.assign' (by (conv => lhs; whnf) <;> rfl)) ?_)
                      refine TL.nil ?_
                      refine T.seq ?_
                      refine T.seq ?_
                      refine T.live (l := [(2, _), (3, _), (9, _), (15, _), (16, _), (17, _)]) (.cons (by (conv => lhs; whnf) <;> rfl) (.cons (by (conv => lhs; whnf) <;> rfl) (.cons (by (conv => lhs; whnf) <;> rfl) (.cons (by (conv => lhs; whnf) <;> rfl) (.cons (by (conv => lhs; whnf) <;> rfl) (.cons (by (conv => lhs; whnf) <;> rfl) .nil)))))) (fun e_ => ?_)
                      refine T.region ?_
                      refine TL.cons rfl (V1.t (V1.move' (by (conv => lhs; whnf) <;> rfl)) ?_)
                      refine TL.cons rfl (V1.t (V1.move' (by (conv => lhs; whnf) <;> rfl)) ?_)
                      refine TL.cons rfl (V1.t (V1.neI rfl rfl (decide_eq_false (by omega))) ?_)
                      refine TL.cons rfl (V1.t (V1.move' (by (conv => lhs; whnf) <;> rfl)) ?_)
                      refine TL.cons rfl (V1.t (V1.move' (by (conv => lhs; whnf) <;> rfl)) ?_)
                      refine TL.cons rfl (V1.t (V1.eqNil ty_29 rfl rfl) ?_)
                      rcases Decidable.em (v4 = pc) with hvo | hvo
                      ·
                        refine TL.cons rfl (V1.t (V1.pick rfl (by (conv => lhs; whnf) <;> rfl)) ?_)
                        refine TL.nil ?_
                        refine T.cond_f rfl ?_
                        refine T.skip ?_
                        refine T.seq ?_
                        refine T.region ?_
                        refine TL.cons rfl (V1.t (V1.indexAddrA ty_50 sz_33 rfl rfl (by decide) (by decide)) ?_)
                        refine TL.cons rfl (V1.t (V1.load1 one_33 rfl (.own (cells := [.slice ga pa.length gc, .slice ka pb.length kc, .slice la pc.length lc]) (by repeat (first | exact Find.here | assumption | apply Find.there | apply Find.far)) (by rfl))) ?_)
                        refine TL.cons rfl (V1.t (V1.bytesToStr (l := pc) ty_33 ty_5 ty_9 rfl (hpc.src rfl) (by intro b h; cases h)) ?_)
                        refine TL.cons rfl (V1.t (V1.assign' (by (conv => lhs; whnf) <;> rfl)) ?_)
                        refine TL.nil ?_
                        refine T.seq ?_
                        refine T.seq ?_
                        refine T.region ?_
                        refine TL.cons rfl (V1.t (V1.move' (by (conv => lhs; whnf) <;> rfl)) ?_)
                        refine TL.nil ?_
                        refine T.cond_f rfl ?_
                        refine T.skip ?_
                        refine T.seq ?_
                        refine T.drawK (fun L_ => Find L_ ⟨b15, 0, [.int .i64 (n4 : Nat), .string (bstr v4)], 2⟩) mixed (by repeat (first | exact Find.here | assumption | apply Find.there | apply Find.far)) ?_
                        refine TK.take 0 rfl (by decide +kernel) (by decide +kernel) (by decide +kernel) rfl (fun _ _ _ h => h) (fun L_ k1_ => V1.move' (by (conv => lhs; whnf) <;> rfl)) ?_
                        refine TK.take 3 rfl (by decide +kernel) (by decide +kernel) (by decide +kernel) rfl (fun _ _ _ h => h) (fun L_ k1_ => V1.fieldAddr fl_40_1 rfl) ?_
                        refine TK.take 4 rfl (by decide +kernel) (by decide +kernel) (by decide +kernel) rfl (fun _ _ _ h => h) (fun L_ k1_ => V1.load1 one_9 rfl (.own (cells := [.int .i64 (n4 : Nat), .string (bstr v4)]) (by repeat (first | exact Find.here | assumption | apply Find.there | apply Find.far)) (by rfl))) ?_
                        refine TK.one 1 (by decide +kernel) rfl rfl (T1.callX (X := Z4) has_11 rfl (Value_any _ bc4 bd n4 v4 Z4 hc4 (by omega)) (by repeat (first | exact Take.nil | apply Take.one (by repeat (first | exact Pick.here | apply Pick.there | apply Pick.far)) | apply Take.seg (by repeat (first | exact PickS.last | exact PickS.one | exact PickS.here | exact PickS.nil | apply PickS.there | apply PickS.far)) | exact Take.last (by repeat (first | exact PickS.last | exact PickS.one | exact PickS.here | exact PickS.nil | apply PickS.there | apply PickS.far)))) (fun v_ Y_ hY => ?_))
                        obtain ⟨Lz, rfl, hsz⟩ := hY
                        simp only [List.append_assoc, List.cons_append, List.nil_append]
                        refine ⟨(by repeat (first | exact Find.here | assumption | apply Find.there | apply Find.far)), ?_⟩
                        refine TK.one 2 (by decide +kernel) rfl rfl (V1.t (V1.slToStr ty_33 ty_5 ty_9 rfl hsz (by repeat (first | exact Sub.here | exact Sub.last | apply Sub.there | apply Sub.far))) ?_)
                        refine ⟨(by repeat (first | exact Find.here | assumption | apply Find.there | apply Find.far)), ?_⟩
                        refine TK.take 5 rfl (by decide +kernel) (by decide +kernel) (by decide +kernel) rfl (fun _ _ _ h => h) (fun L_ k1_ => V1.eqS (r := true) rfl rfl (decide_eq_true rfl)) ?_
                        refine TK.take 6 rfl (by decide +kernel) (by decide +kernel) (by decide +kernel) rfl (fun _ _ _ h => h) (fun L_ k1_ => V1.move' (by (conv => lhs; whnf) <;> rfl)) ?_
                        refine TK.take 7 rfl (by decide +kernel) (by decide +kernel) (by decide +kernel) rfl (fun _ _ _ h => h) (fun L_ k1_ => V1.fieldAddr fl_40_1 rfl) ?_
                        refine TK.take 8 rfl (by decide +kernel) (by decide +kernel) (by decide +kernel) rfl (fun _ _ _ h => h) (fun L_ k1_ => V1.load1 one_9 rfl (.own (cells := [.int .i64 (n4 : Nat), .string (bstr v4)]) (by repeat (first | exact Find.here | assumption | apply Find.there | apply Find.far)) (by rfl))) ?_
                        refine TK.take 9 rfl (by decide +kernel) (by decide +kernel) (by decide +kernel) rfl (fun _ _ _ h => h) (fun L_ k1_ => V1.move' (by (conv => lhs; whnf) <;> rfl)) ?_
                        refine TK.take 10 rfl (by decide +kernel) (by decide +kernel) (by decide +kernel) rfl (fun _ _ _ h => h) (fun L_ k1_ => V1.eqS (r := true) rfl rfl (decide_eq_true (by rw [hvo]))) ?_
                        refine TK.take 11 rfl (by decide +kernel) (by decide +kernel) (by decide +kernel) rfl (fun _ _ _ h => h) (fun L_ k1_ => V1.move' (by (conv => lhs; whnf) <;> rfl)) ?_
                        refine TD.takeNo (i := 12) rfl (by decide +kernel) (by decide +kernel) (by decide +kernel) rfl (fun _ _ _ h => h) ?_
                        refine TD.takeNo (i := 13) rfl (by decide +kernel) (by decide +kernel) (by decide +kernel) rfl (fun _ _ _ h => h) ?_
                        refine TD.takeNo (i := 14) rfl (by decide +kernel) (by decide +kernel) (by decide +kernel) rfl (fun _ _ _ h => h) ?_
                        refine TK.take 15 rfl (by decide +kernel) (by decide +kernel) (by decide +kernel) rfl (fun _ _ _ h => h) (fun L_ k1_ => V1.pick rfl (by (conv => lhs; whnf) <;> rfl)) ?_
                        refine TK.take 16 rfl (by decide +kernel) (by decide +kernel) (by decide +kernel) rfl (fun _ _ _ h => h) (fun L_ k1_ => V1.pick rfl (by (conv => lhs; whnf) <;> rfl)) ?_
                        refine TK.take 17 rfl (by decide +kernel) (by decide +kernel) (by decide +kernel) rfl (fun _ _ _ h => h) (fun L_ k1_ => V1.assign' (by (conv => lhs; whnf) <;> rfl)) ?_
                        refine TD.done (by decide +kernel) ?_
                        refine T.ret ?_
                        exact ⟨_, [], _, .cons (.tmp (by (conv => lhs; whnf) <;> rfl)) .nil, Take.nil, rfl⟩
                      ·
                        refine TL.cons rfl (V1.t (V1.pick rfl (by (conv => lhs; whnf) <;> rfl)) ?_)
                        refine TL.nil ?_
                        refine T.cond_f rfl ?_
                        refine T.skip ?_
                        refine T.seq ?_
                        refine T.region ?_
                        refine TL.cons rfl (V1.t (V1.indexAddrA ty_50 sz_33 rfl rfl (by decide) (by decide)) ?_)
                        refine TL.cons rfl (V1.t (V1.load1 one_33 rfl (.own (cells := [.slice ga pa.length gc, .slice ka pb.length kc, .slice la pc.length lc]) (by repeat (first | exact Find.here | assumption | apply Find.there | apply Find.far)) (by rfl))) ?_)
                        refine TL.cons rfl (V1.t (V1.bytesToStr (l := pc) ty_33 ty_5 ty_9 rfl (hpc.src rfl) (by intro b h; cases h)) ?_)
                        refine TL.cons rfl (V1.t (V1.assign' (by (conv => lhs; whnf) <;> rfl)) ?_)
                        refine TL.nil ?_
                        refine T.seq ?_
                        refine T.seq ?_
                        refine T.region ?_
                        refine TL.cons rfl (V1.t (V1.move' (by (conv => lhs; whnf) <;> rfl)) ?_)
                        refine TL.nil ?_
                        refine T.cond_f rfl ?_
                        refine T.skip ?_
                        refine T.seq ?_
                        refine T.drawK (fun L_ => Find L_ ⟨b15, 0, [.int .i64 (n4 : Nat), .string (bstr v4)], 2⟩) mixed (by repeat (first | exact Find.here | assumption | apply Find.there | apply Find.far)) ?_
                        refine TK.take 0 rfl (by decide +kernel) (by decide +kernel) (by decide +kernel) rfl (fun _ _ _ h => h) (fun L_ k1_ => V1.move' (by (conv => lhs; whnf) <;> rfl)) ?_
                        refine TK.take 3 rfl (by decide +kernel) (by decide +kernel) (by decide +kernel) rfl (fun _ _ _ h => h) (fun L_ k1_ => V1.fieldAddr fl_40_1 rfl) ?_
                        refine TK.take 4 rfl (by decide +kernel) (by decide +kernel) (by decide +kernel) rfl (fun _ _ _ h => h) (fun L_ k1_ => V1.load1 one_9 rfl (.own (cells := [.int .i64 (n4 : Nat), .string (bstr v4)]) (by repeat (first | exact Find.here | assumption | apply Find.there | apply Find.far)) (by rfl))) ?_
                        refine TK.one 1 (by decide +kernel) rfl rfl (T1.callX (X := Z4) has_11 rfl (Value_any _ bc4 bd n4 v4 Z4 hc4 (by omega)) (by repeat (first | exact Take.nil | apply Take.one (by repeat (first | exact Pick.here | apply Pick.there | apply Pick.far)) | apply Take.seg (by repeat (first | exact PickS.last | exact PickS.one | exact PickS.here | exact PickS.nil | apply PickS.there | apply PickS.far)) | exact Take.last (by repeat (first | exact PickS.last | exact PickS.one | exact PickS.here | exact PickS.nil | apply PickS.there | apply PickS.far)))) (fun v_ Y_ hY => ?_))
                        obtain ⟨Lz, rfl, hsz⟩ := hY
                        simp only [List.append_assoc, List.cons_append, List.nil_append]
                        refine ⟨(by repeat (first | exact Find.here | assumption | apply Find.there | apply Find.far)), ?_⟩
                        refine TK.one 2 (by decide +kernel) rfl rfl (V1.t (V1.slToStr ty_33 ty_5 ty_9 rfl hsz (by repeat (first | exact Sub.here | exact Sub.last | apply Sub.there | apply Sub.far))) ?_)
                        refine ⟨(by repeat (first | exact Find.here | assumption | apply Find.there | apply Find.far)), ?_⟩
                        refine TK.take 5 rfl (by decide +kernel) (by decide +kernel) (by decide +kernel) rfl (fun _ _ _ h => h) (fun L_ k1_ => V1.eqS (r := true) rfl rfl (decide_eq_true rfl)) ?_
                        refine TK.take 6 rfl (by decide +kernel) (by decide +kernel) (by decide +kernel) rfl (fun _ _ _ h => h) (fun L_ k1_ => V1.move' (by (conv => lhs; whnf) <;> rfl)) ?_
                        refine TK.take 7 rfl (by decide +kernel) (by decide +kernel) (by decide +kernel) rfl (fun _ _ _ h => h) (fun L_ k1_ => V1.fieldAddr fl_40_1 rfl) ?_
                        refine TK.take 8 rfl (by decide +kernel) (by decide +kernel) (by decide +kernel) rfl (fun _ _ _ h => h) (fun L_ k1_ => V1.load1 one_9 rfl (.own (cells := [.int .i64 (n4 : Nat), .string (bstr v4)]) (by repeat (first | exact Find.here | assumption | apply Find.there | apply Find.far)) (by rfl))) ?_
                        refine TK.take 9 rfl (by decide +kernel) (by decide +kernel) (by decide +kernel) rfl (fun _ _ _ h => h) (fun L_ k1_ => V1.move' (by (conv => lhs; whnf) <;> rfl)) ?_
                        refine TK.take 10 rfl (by decide +kernel) (by decide +kernel) (by decide +kernel) rfl (fun _ _ _ h => h) (fun L_ k1_ => V1.eqS (r := false) rfl rfl (decide_eq_false (fun h => hvo (bstr_inj h)))) ?_
                        refine TK.take 11 rfl (by decide +kernel) (by decide +kernel) (by decide +kernel) rfl (fun _ _ _ h => h) (fun L_ k1_ => V1.move' (by (conv => lhs; whnf) <;> rfl)) ?_
                        refine TK.take 12 rfl (by decide +kernel) (by decide +kernel) (by decide +kernel) rfl (fun _ _ _ h => h) (fun L_ k1_ => V1.fieldAddr fl_40_0 rfl) ?_
                        refine TK.take 13 rfl (by decide +kernel) (by decide +kernel) (by decide +kernel) rfl (fun _ _ _ h => h) (fun L_ k1_ => V1.load1 one_3 rfl (.own (cells := [.int .i64 (n4 : Nat), .string (bstr v4)]) (by repeat (first | exact Find.here | assumption | apply Find.there | apply Find.far)) (by rfl))) ?_
                        refine TK.take 14 rfl (by decide +kernel) (by decide +kernel) (by decide +kernel) rfl (fun _ _ _ h => h) (fun L_ k1_ => V1.gtI rfl rfl (decide_eq_true (by omega))) ?_
                        refine TK.take 15 rfl (by decide +kernel) (by decide +kernel) (by decide +kernel) rfl (fun _ _ _ h => h) (fun L_ k1_ => V1.pick rfl (by (conv => lhs; whnf) <;> rfl)) ?_
                        refine TK.take 16 rfl (by decide +kernel) (by decide +kernel) (by decide +kernel) rfl (fun _ _ _ h => h) (fun L_ k1_ => V1.pick rfl (by (conv => lhs; whnf) <;> rfl)) ?_
                        refine TK.take 17 rfl (by decide +kernel) (by decide +kernel) (by decide +kernel) rfl (fun _ _ _ h => h) (fun L_ k1_ => V1.assign' (by (conv => lhs; whnf) <;> rfl)) ?_
                        refine TD.done (by decide +kernel) ?_
                        refine T.ret ?_
                        exact ⟨_, [], _, .cons (.tmp (by (conv => lhs; whnf) <;> rfl)) .nil, Take.nil, rfl⟩
                ·
                  refine TL.nil ?_
                  refine T.seq ?_
                  refine T.seq ?_
                  refine T.live (l := [(1, _), (2, _), (3, _), (7, _), (13, _), (14, _)]) (.cons (by (conv => lhs; whnf) <;> rfl) (.cons (by (conv => lhs; whnf) <;> rfl) (.cons (by (conv => lhs; whnf) <;> rfl) (.cons (by (conv => lhs; whnf) <;> rfl) (.cons (by (conv => lhs; whnf) <;> rfl) (.cons (by (conv => lhs; whnf) <;> rfl) .nil)))))) (fun e_ => ?_)
                  refine T.region ?_
                  refine TL.cons rfl (V1.t (V1.move' (by (conv => lhs; whnf) <;> rfl)) ?_)
                  refine TL.nil ?_
                  refine T.cond_t rfl ?_
                  refine T.region ?_
                  refine TL.cons rfl (V1.t (V1.indexAddrA ty_50 sz_33 rfl rfl (by decide) (by decide)) ?_)
                  refine TL.cons rfl (V1.t (V1.load1 one_33 rfl (.own (cells := [.slice ga pa.length gc, .slice ka pb.length kc, .slice la pc.length lc]) (by repeat (first | exact Find.here | assumption | apply Find.there | apply Find.far)) (by rfl))) ?_)
                  refine TL.cons rfl (V1.t (V1.lenSl ty_33 rfl) ?_)
                  refine TL.cons rfl (V1.t (V1.add (c := ((44 + pc.length : Nat) : Int)) rfl rfl (by rw [wrap_i64 _ (by omega) (by omega)]; omega)) ?_)
                  refine TL.cons rfl (V1.t (V1.assign' (by (conv => lhs; whnf) <;> rfl)) ?_)
                  refine TL.cons rfl (V1.t (V1.assign' (by (conv => lhs; whnf) <;> rfl)) ?_)
                  refine TL.nil ?_
                  refine T.seq ?_
                  refine T.seq ?_
                  refine T.region ?_
                  refine TL.cons rfl (V1.t (V1.move' (by (conv => lhs; whnf) <;> rfl)) ?_)
                  refine TL.cons rfl (T1.ltI_split rfl rfl (fun h20 => ?_) (fun h20 => ?_))
                  ·
                    refine TL.cons rfl (V1.t (V1.move' (by (conv => lhs; whnf) <;> rfl)) ?_)
                    refine TL.no rfl ?_
                    refine TL.no rfl ?_
                    refine TL.no rfl ?_
                    refine TL.cons rfl (V1.t (V1.pick rfl (by (conv => lhs; whnf) <;> rfl)) ?_)
                    refine TL.nil ?_
                    refine T.cond_t rfl ?_
                    refine T.seq ?_
                    refine T.region ?_
                    refine TL.cons rfl (V1.t (V1.assign' (by (conv => lhs; whnf) <;> rfl)) ?_)
                    refine TL.nil ?_
                    refine T.ret ?_
                    exact ⟨_, [], _, .cons (.tmp (by (conv => lhs; whnf) <;> rfl)) .nil, Take.nil, rfl⟩
                  ·
                    refine TL.cons rfl (V1.t (V1.move' (by (conv => lhs; whnf) <;> rfl)) ?_)
                    refine TL.cons rfl (V1.t (V1.move' (by (conv => lhs; whnf) <;> rfl)) ?_)
                    refine TL.cons rfl (V1.t (V1.move' (by (conv => lhs; whnf) <;> rfl)) ?_)
                    refine TL.cons rfl (T1.geI_split rfl rfl (fun h20b => ?_) (fun h20b => ?_))
                    ·
                      refine TL.cons rfl (V1.t (V1.pick rfl (by (conv => lhs; whnf) <;> rfl)) ?_)
                      refine TL.nil ?_
                      refine T.cond_t rfl ?_
                      refine T.seq ?_
                      refine T.region ?_
                      refine TL.cons rfl (V1.t (V1.assign' (by (conv => lhs; whnf) <;> rfl)) ?_)
                      refine TL.nil ?_
                      refine T.ret ?_
                      exact ⟨_, [], _, .cons (.tmp (by (conv => lhs; whnf) <;> rfl)) .nil, Take.nil, rfl⟩
                    ·
                      obtain ⟨m, rfl⟩ : ∃ m : Nat, at_ = m := ⟨at_.toNat, by omega⟩
                      obtain ⟨x, hx⟩ : ∃ z, a3[200 + m]? = some z := ⟨_, List.getElem?_eq_getElem (by omega)⟩
                      refine TL.cons rfl (V1.t (V1.pick rfl (by (conv => lhs; whnf) <;> rfl)) ?_)
                      refine TL.nil ?_
                      refine T.cond_f rfl ?_
                      refine T.skip ?_
                      refine T.seq ?_
                      refine T.seq ?_
                      refine T.region ?_
                      refine TL.cons rfl (V1.t (V1.move' (by (conv => lhs; whnf) <;> rfl)) ?_)
                      refine TL.cons rfl (V1.t (V1.move' (by (conv => lhs; whnf) <;> rfl)) ?_)
                      refine TL.cons rfl (V1.t (V1.move' (by (conv => lhs; whnf) <;> rfl)) ?_)
                      refine TL.cons rfl (V1.t (V1.add (c := ((200 + m : Nat) : Int)) rfl rfl (by rw [wrap_i64 _ (by omega) (by omega)]; omega)) ?_)
                      refine TL.cons rfl (V1.t (V1.move' (by (conv => lhs; whnf) <;> rfl)) ?_)
                      refine TL.cons rfl (T1.callX (X := [(⟨bd, 0, [.slice (some ⟨ba, 0, none⟩) a3.length a3.length, .int .i64 (-1)], 2⟩ : Blk), (⟨ba, 0, List.map byteV a3, a3.length⟩ : Blk)]) has_16 rfl (Bytes_any _ bd ba a3 (-1) (by omega)) (by repeat (first | exact Take.nil | apply Take.one (by repeat (first | exact Pick.here | apply Pick.there | apply Pick.far)) | apply Take.seg (by repeat (first | exact PickS.last | exact PickS.one | exact PickS.here | exact PickS.nil | apply PickS.there | apply PickS.far)) | exact Take.last (by repeat (first | exact PickS.last | exact PickS.one | exact PickS.here | exact PickS.nil | apply PickS.there | apply PickS.far)))) (fun v_ Y_ hY => ?_))
                      obtain ⟨Lw, rfl, hsw⟩ := hY
                      simp only [List.append_assoc, List.cons_append, List.nil_append]
                      obtain ⟨bw, ow, cw, zw, rfl, hcw, hzw, rfl⟩ := hsw.block (by intro h; have h9 := congrArg List.length h; rw [List.length_map, List.length_nil] at h9; omega)
                      simp only [List.length_map, List.append_assoc, List.cons_append, List.nil_append]
                      refine TL.cons rfl (V1.t (V1.move' (by (conv => lhs; whnf) <;> rfl)) ?_)
                      refine TL.cons rfl (V1.t (V1.move' (by (conv => lhs; whnf) <;> rfl)) ?_)
                      refine TL.cons rfl (V1.t (V1.add (c := ((200 + m : Nat) : Int)) rfl rfl (by rw [wrap_i64 _ (by omega) (by omega)]; omega)) ?_)
                      refine TL.cons rfl (V1.t (V1.indexAddrS ty_33 sz_5 rfl rfl (by omega) (by omega)) ?_)
                      refine TL.cons rfl (V1.t (V1.load1 one_5 rfl (show Rd _ _ ⟨bw, ow + (200 + m) * 1, none⟩ (byteV x) from by rw [Nat.mul_one]; exact Rd.at (cells := List.map byteV a3) (by repeat (first | exact Find.here | assumption | apply Find.there | apply Find.far)) (by rw [List.getElem?_map, hx]; rfl))) ?_)
                      refine TL.cons rfl (V1.t (show V1 _ _ _ _ (byteV (x ^^^ 1)) from V1.xorW (a := x.toBitVec) (b := 1#8) u8U rfl rfl) ?_)
                      refine TL.cons rfl (T1.callX (X := [(⟨bd, 0, [.slice (some ⟨ba, 0, none⟩) a3.length a3.length, .int .i64 (-1)], 2⟩ : Blk), (⟨ba, 0, List.map byteV a3, a3.length⟩ : Blk)]) has_17 rfl (PokeD _ bd ba a3 (-1) (200 + m) (x ^^^ 1) (by omega)) (by repeat (first | exact Take.nil | apply Take.one (by repeat (first | exact Pick.here | apply Pick.there | apply Pick.far)) | apply Take.seg (by repeat (first | exact PickS.last | exact PickS.one | exact PickS.here | exact PickS.nil | apply PickS.there | apply PickS.far)) | exact Take.last (by repeat (first | exact PickS.last | exact PickS.one | exact PickS.here | exact PickS.nil | apply PickS.there | apply PickS.far)))) (fun v_ Y_ hY => ?_))
                      obtain ⟨rfl, a4, ha4, hla4, rfl⟩ := hY
                      simp only [List.cons_append, List.nil_append]
                      have h42 : a4.length = 2 * 200 := by have := hd3.1; omega
                      have hhas := disk_has hd2 (b := a4) (by decide) (by decide) (by omega) (by rw [show 2 % 2 = 0 from rfl, ha4, plc_set_other (i := 1) (by decide) (by decide) (by decide) (by omega) (by omega)]; exact hpl3)
                      have hq0 : (plc 200 0 a4).length = 200 := plc_len (by omega)
                      have hq1 : (plc 200 1 a4).length = 200 := plc_len (by omega)
                      obtain ⟨n4, v4, hop, hn4, hv4⟩ := openP_has hhas
                      have hv44 : v4.length ≤ 200 := by omega
                      refine TL.cons rfl (V1.t (V1.neI rfl rfl (decide_eq_false (by omega))) ?_)
                      refine TL.nil ?_
                      refine T.cond_f rfl ?_
                      refine T.skip ?_
                      refine T.seq ?_
                      refine T.live (l := [(2, _), (3, _), (7, _)]) (.cons (by (conv => lhs; whnf) <;> rfl) (.cons (by (conv => lhs; whnf) <;> rfl) (.cons (by (conv => lhs; whnf) <;> rfl) .nil))) (fun e_ => ?_)
                      refine T.region ?_
                      refine TL.cons rfl (V1.t (V1.move' (by (conv => lhs; whnf) <;> rfl)) ?_)
                      refine TL.cons rfl (T1.callX (X := [(⟨bd, 0, [.slice (some ⟨ba, 0, none⟩) a4.length a4.length, .int .i64 (-1)], 2⟩ : Blk), (⟨ba, 0, List.map byteV a4, a4.length⟩ : Blk)]) has_16 rfl (Bytes_any _ bd ba a4 (-1) (by omega)) (by repeat (first | exact Take.nil | apply Take.one (by repeat (first | exact Pick.here | apply Pick.there | apply Pick.far)) | apply Take.seg (by repeat (first | exact PickS.last | exact PickS.one | exact PickS.here | exact PickS.nil | apply PickS.there | apply PickS.far)) | exact Take.last (by repeat (first | exact PickS.last | exact PickS.one | exact PickS.here | exact PickS.nil | apply PickS.there | apply PickS.far)))) (fun v_ Y_ hY => ?_))
                      obtain ⟨Lb, rfl, hsb⟩ := hY
                      simp only [List.append_assoc, List.cons_append, List.nil_append]
                      refine TL.cons rfl (V1.t (V1.slToStr ty_33 ty_5 ty_9 rfl hsb (by repeat (first | exact Sub.here | exact Sub.last | apply Sub.there | apply Sub.far))) ?_)
                      refine TL.cons rfl (V1.t (V1.buildF pl_44 zr_44 (.one rfl (by (conv => lhs; whnf) <;> rfl) rfl .nil) (by repeat (first | exact FillL.nil | exact SetN.done | apply SetN.here | apply SetN.there | apply FillL.cons))) ?_)
                      refine TL.cons rfl (T1.call0 has_15 rfl (fun w hs => refOpen_any 200 a4 0 w h42 (by decide) (by decide)) (fun v_ hv => ?_))
                      rw [hop] at hv
                      obtain rfl : v_ = .tuple #[.agg #[.int .i64 (n4 : Nat), .string (bstr v4)], .int .i64 0] := hv
                      refine TL.cons rfl (V1.t (V1.move' (by (conv => lhs; whnf) <;> rfl)) ?_)
                      refine TL.cons rfl (V1.t (V1.extract rfl (by rfl)) ?_)
                      refine TL.cons rfl (V1.t (V1.extract rfl (by rfl)) ?_)
                      refine TL.cons rfl (T1.allocN 2 zr_40 rfl (fun b15 => ?_))
                      refine TL.cons rfl (T1.storeN (vs := [.int .i64 (n4 : Nat), .string (bstr v4)]) rfl rfl sz_40 (ones rfl) (by repeat (first | exact Sub.one | apply Sub.there | apply Sub.far)) (by rfl) (by rfl) ?_)
                      refine TL.cons rfl (V1.t (V1.assign' (by (conv => lhs; whnf) <;> rfl)) ?_)
                      refine TL.nil ?_
                      refine T.seq ?_
                      refine T.region ?_
                      refine TL.cons rfl (V1.t (V1.move' (by (conv => lhs; whnf) <;> rfl)) ?_)
                      refine TL.cons rfl (T1.callX (X := [(⟨bd, 0, [.slice (some ⟨ba, 0, none⟩) a4.length a4.length, .int .i64 (-1)], 2⟩ : Blk), (⟨ba, 0, List.map byteV a4, a4.length⟩ : Blk)]) has_9 rfl (Open_any _ bd ba 200 a4 (-1) h42 (by decide) (by decide)) (by repeat (first | exact Take.nil | apply Take.one (by repeat (first | exact Pick.here | apply Pick.there | apply Pick.far)) | apply Take.seg (by repeat (first | exact PickS.last | exact PickS.one | exact PickS.here | exact PickS.nil | apply PickS.there | apply PickS.far)) | exact Take.last (by repeat (first | exact PickS.last | exact PickS.one | exact PickS.here | exact PickS.nil | apply PickS.there | apply PickS.far)))) (fun v_ Y_ hY => ?_))
                      rw [hop] at hY
                      obtain ⟨bc4, Z4, rfl, hc4, rfl⟩ := hY
                      simp only [List.append_assoc, List.cons_append, List.nil_append]
                      refine TL.cons rfl (V1.t (V1.move' (by (conv => lhs; whnf) <;> rfl)) ?_)
                      refine TL.cons rfl (V1.t (V1.extract rfl (by rfl)) ?_)
                      refine TL.cons rfl (V1.t (V1.extract rfl (by rfl)) ?_)
                      refine TL.cons rfl (V1.t (V1.assign' (by (conv => lhs; whnf) <;> rfl)) ?_)
                      refine TL.cons rfl (V1.t (V1.assign' (by (conv => lhs; whnf) <;> rfl)) ?_)
                      refine TL.nil ?_
                      refine T.seq ?_
                      refine T.seq ?_
                      refine T.live (l := [(2, _), (3, _), (9, _), (15, _), (16, _), (17, _)]) (.cons (by (conv => lhs; whnf) <;> rfl) (.cons (by (conv => lhs; whnf) <;> rfl) (.cons (by (conv => lhs; whnf) <;> rfl) (.cons (by (conv => lhs; whnf) <;> rfl) (.cons (by (conv => lhs; whnf) <;> rfl) (.cons (by (conv => lhs; whnf) <;> rfl) .nil)))))) (fun e_ => ?_)
                      refine T.region ?_
                      refine TL.cons rfl (V1.t (V1.move' (by (conv => lhs; whnf) <;> rfl)) ?_)
                      refine TL.cons rfl (V1.t (V1.move' (by (conv => lhs; whnf) <;> rfl)) ?_)
                      refine TL.cons rfl (V1.t (V1.neI rfl rfl (decide_eq_false (by omega))) ?_)
                      refine TL.cons rfl (V1.t (V1.move' (by (conv => lhs; whnf) <;> rfl)) ?_)
                      refine TL.cons rfl (V1.t (V1.move' (by (conv => lhs; whnf) <;> rfl)) ?_)
                      refine TL.cons rfl (V1.t (V1.eqNil ty_29 rfl rfl) ?_)
                      rcases Decidable.em (v4 = pb) with hvo | hvo
                      ·
                        refine TL.cons rfl (V1.t (V1.pick rfl (by (conv => lhs; whnf) <;> rfl)) ?_)
                        refine TL.nil ?_
                        refine T.cond_f rfl ?_
                        refine T.skip ?_
                        refine T.seq ?_
                        refine T.region ?_
                        refine TL.cons rfl (V1.t (V1.indexAddrA ty_50 sz_33 rfl rfl (by decide) (by decide)) ?_)
                        refine TL.cons rfl (V1.t (V1.load1 one_33 rfl (.own (cells := [.slice ga pa.length gc, .slice ka pb.length kc, .slice la pc.length lc]) (by repeat (first | exact Find.here | assumption | apply Find.there | apply Find.far)) (by rfl))) ?_)
                        refine TL.cons rfl (V1.t (V1.bytesToStr (l := pc) ty_33 ty_5 ty_9 rfl (hpc.src rfl) (by intro b h; cases h)) ?_)
                        refine TL.cons rfl (V1.t (V1.assign' (by (conv => lhs; whnf) <;> rfl)) ?_)
                        refine TL.nil ?_
                        refine T.seq ?_
                        refine T.seq ?_
                        refine T.region ?_
                        refine TL.cons rfl (V1.t (V1.move' (by (conv => lhs; whnf) <;> rfl)) ?_)
                        refine TL.nil ?_
                        refine T.cond_t rfl ?_
                        refine T.region ?_
                        refine TL.cons rfl (V1.t (V1.indexAddrA ty_50 sz_33 rfl rfl (by decide) (by decide)) ?_)
                        refine TL.cons rfl (V1.t (V1.load1 one_33 rfl (.own (cells := [.slice ga pa.length gc, .slice ka pb.length kc, .slice la pc.length lc]) (by repeat (first | exact Find.here | assumption | apply Find.there | apply Find.far)) (by rfl))) ?_)
                        refine TL.cons rfl (V1.t (V1.bytesToStr (l := pb) ty_33 ty_5 ty_9 rfl (hpb.src rfl) (by intro b h; cases h)) ?_)
                        refine TL.cons rfl (V1.t (V1.assign' (by (conv => lhs; whnf) <;> rfl)) ?_)
                        refine TL.nil ?_
                        refine T.seq ?_
                        refine T.live (l := [(9, _), (15, _), (18, _)]) (.cons (by (conv => lhs; whnf) <;> rfl) (.cons (by (conv => lhs; whnf) <;> rfl) (.cons (by (conv => lhs; whnf) <;> rfl) .nil))) (fun e_ => ?_)
                        refine T.drawK (fun L_ => Find L_ ⟨b15, 0, [.int .i64 (n4 : Nat), .string (bstr v4)], 2⟩) mixed (by repeat (first | exact Find.here | assumption | apply Find.there | apply Find.far)) ?_
                        refine TK.take 0 rfl (by decide +kernel) (by decide +kernel) (by decide +kernel) rfl (fun _ _ _ h => h) (fun L_ k1_ => V1.move' (by (conv => lhs; whnf) <;> rfl)) ?_
                        refine TK.take 3 rfl (by decide +kernel) (by decide +kernel) (by decide +kernel) rfl (fun _ _ _ h => h) (fun L_ k1_ => V1.fieldAddr fl_40_1 rfl) ?_
                        refine TK.take 4 rfl (by decide +kernel) (by decide +kernel) (by decide +kernel) rfl (fun _ _ _ h => h) (fun L_ k1_ => V1.load1 one_9 rfl (.own (cells := [.int .i64 (n4 : Nat), .string (bstr v4)]) (by repeat (first | exact Find.here | assumption | apply Find.there | apply Find.far)) (by rfl))) ?_
                        refine TK.one 1 (by decide +kernel) rfl rfl (T1.callX (X := Z4) has_11 rfl (Value_any _ bc4 bd n4 v4 Z4 hc4 (by omega)) (by repeat (first | exact Take.nil | apply Take.one (by repeat (first | exact Pick.here | apply Pick.there | apply Pick.far)) | apply Take.seg (by repeat (first | exact PickS.last | exact PickS.one | exact PickS.here | exact PickS.nil | apply PickS.there | apply PickS.far)) | exact Take.last (by repeat (first | exact PickS.last | exact PickS.one | exact PickS.here | exact PickS.nil | apply PickS.there | apply PickS.far)))) (fun v_ Y_ hY => ?_))
                        obtain ⟨Lz, rfl, hsz⟩ := hY
                        simp only [List.append_assoc, List.cons_append, List.nil_append]
                        refine ⟨(by repeat (first | exact Find.here | assumption | apply Find.there | apply Find.far)), ?_⟩
                        refine TK.one 2 (by decide +kernel) rfl rfl (V1.t (V1.slToStr ty_33 ty_5 ty_9 rfl hsz (by repeat (first | exact Sub.here | exact Sub.last | apply Sub.there | apply Sub.far))) ?_)
                        refine ⟨(by repeat (first | exact Find.here | assumption | apply Find.there | apply Find.far)), ?_⟩
                        refine TK.take 5 rfl (by decide +kernel) (by decide +kernel) (by decide +kernel) rfl (fun _ _ _ h => h) (fun L_ k1_ => V1.eqS (r := true) rfl rfl (decide_eq_true rfl)) ?_
                        refine TK.take 6 rfl (by decide +kernel) (by decide +kernel) (by decide +kernel) rfl (fun _ _ _ h => h) (fun L_ k1_ => V1.move' (by (conv => lhs; whnf) <;> rfl)) ?_
                        refine TK.take 7 rfl (by decide +kernel) (by decide +kernel) (by decide +kernel) rfl (fun _ _ _ h => h) (fun L_ k1_ => V1.fieldAddr fl_40_1 rfl) ?_
                        refine TK.take 8 rfl (by decide +kernel) (by decide +kernel) (by decide +kernel) rfl (fun _ _ _ h => h) (fun L_ k1_ => V1.load1 one_9 rfl (.own (cells := [.int .i64 (n4 : Nat), .string (bstr v4)]) (by repeat (first | exact Find.here | assumption | apply Find.there | apply Find.far)) (by rfl))) ?_
                        refine TK.take 9 rfl (by decide +kernel) (by decide +kernel) (by decide +kernel) rfl (fun _ _ _ h => h) (fun L_ k1_ => V1.move' (by (conv => lhs; whnf) <;> rfl)) ?_
                        refine TK.take 10 rfl (by decide +kernel) (by decide +kernel) (by decide +kernel) rfl (fun _ _ _ h => h) (fun L_ k1_ => V1.eqS (r := true) rfl rfl (decide_eq_true (by rw [hvo]))) ?_
                        refine TK.take 11 rfl (by decide +kernel) (by decide +kernel) (by decide +kernel) rfl (fun _ _ _ h => h) (fun L_ k1_ => V1.move' (by (conv => lhs; whnf) <;> rfl)) ?_
                        refine TD.takeNo (i := 12) rfl (by decide +kernel) (by decide +kernel) (by decide +kernel) rfl (fun _ _ _ h => h) ?_
                        refine TD.takeNo (i := 13) rfl (by decide +kernel) (by decide +kernel) (by decide +kernel) rfl (fun _ _ _ h => h) ?_
                        refine TD.takeNo (i := 14) rfl (by decide +kernel) (by decide +kernel) (by decide +kernel) rfl (fun _ _ _ h => h) ?_
                        refine TK.take 15 rfl (by decide +kernel) (by decide +kernel) (by decide +kernel) rfl (fun _ _ _ h => h) (fun L_ k1_ => V1.pick rfl (by (conv => lhs; whnf) <;> rfl)) ?_
                        refine TK.take 16 rfl (by decide +kernel) (by decide +kernel) (by decide +kernel) rfl (fun _ _ _ h => h) (fun L_ k1_ => V1.pick rfl (by (conv => lhs; whnf) <;> rfl)) ?_
                        refine TK.take 17 rfl (by decide +kernel) (by decide +kernel) (by decide +kernel) rfl (fun _ _ _ h => h) (fun L_ k1_ => V1.assign' (by (conv => lhs; whnf) <;> rfl)) ?_
                        refine TD.done (by decide +kernel) ?_
                        refine T.ret ?_
                        exact ⟨_, [], _, .cons (.tmp (by (conv => lhs; whnf) <;> rfl)) .nil, Take.nil, rfl⟩
                      ·
                        refine TL.cons rfl (V1.t (V1.pick rfl (by (conv => lhs; whnf) <;> rfl)) ?_)
                        refine TL.nil ?_
                        refine T.cond_f rfl ?_
                        refine T.skip ?_
                        refine T.seq ?_
                        refine T.region ?_
                        refine TL.cons rfl (V1.t (V1.indexAddrA ty_50 sz_33 rfl rfl (by decide) (by decide)) ?_)
                        refine TL.cons rfl (V1.t (V1.load1 one_33 rfl (.own (cells := [.slice ga pa.length gc, .slice ka pb.length kc, .slice la pc.length lc]) (by repeat (first | exact Find.here | assumption | apply Find.there | apply Find.far)) (by rfl))) ?_)
                        refine TL.cons rfl (V1.t (V1.bytesToStr (l := pc) ty_33 ty_5 ty_9 rfl (hpc.src rfl) (by intro b h; cases h)) ?_)
                        refine TL.cons rfl (V1.t (V1.assign' (by (conv => lhs; whnf) <;> rfl)) ?_)
                        refine TL.nil ?_
                        refine T.seq ?_
                        refine T.seq ?_
                        refine T.region ?_
                        refine TL.cons rfl (V1.t (V1.move' (by (conv => lhs; whnf) <;> rfl)) ?_)
                        refine TL.nil ?_
                        refine T.cond_t rfl ?_
                        refine T.region ?_
                        refine TL.cons rfl (V1.t (V1.indexAddrA ty_50 sz_33 rfl rfl (by decide) (by decide)) ?_)
                        refine TL.cons rfl (V1.t (V1.load1 one_33 rfl (.own (cells := [.slice ga pa.length gc, .slice ka pb.length kc, .slice la pc.length lc]) (by repeat (first | exact Find.here | assumption | apply Find.there | apply Find.far)) (by rfl))) ?_)
                        refine TL.cons rfl (V1.t (V1.bytesToStr (l := pb) ty_33 ty_5 ty_9 rfl (hpb.src rfl) (by intro b h; cases h)) ?_)
                        refine TL.cons rfl (V1.t (V1.assign' (by (conv => lhs; whnf) <;> rfl)) ?_)
                        refine TL.nil ?_
                        refine T.seq ?_
                        refine T.live (l := [(9, _), (15, _), (18, _)]) (.cons (by (conv => lhs; whnf) <;> rfl) (.cons (by (conv => lhs; whnf) <;> rfl) (.cons (by (conv => lhs; whnf) <;> rfl) .nil))) (fun e_ => ?_)
                        refine T.drawK (fun L_ => Find L_ ⟨b15, 0, [.int .i64 (n4 : Nat), .string (bstr v4)], 2⟩) mixed (by repeat (first | exact Find.here | assumption | apply Find.there | apply Find.far)) ?_
                        refine TK.take 0 rfl (by decide +kernel) (by decide +kernel) (by decide +kernel) rfl (fun _ _ _ h => h) (fun L_ k1_ => V1.move' (by (conv => lhs; whnf) <;> rfl)) ?_
                        refine TK.take 3 rfl (by decide +kernel) (by decide +kernel) (by decide +kernel) rfl (fun _ _ _ h => h) (fun L_ k1_ => V1.fieldAddr fl_40_1 rfl) ?_
                        refine TK.take 4 rfl (by decide +kernel) (by decide +kernel) (by decide +kernel) rfl (fun _ _ _ h => h) (fun L_ k1_ => V1.load1 one_9 rfl (.own (cells := [.int .i64 (n4 : Nat), .string (bstr v4)]) (by repeat (first | exact Find.here | assumption | apply Find.there | apply Find.far)) (by rfl))) ?_
                        refine TK.one 1 (by decide +kernel) rfl rfl (T1.callX (X := Z4) has_11 rfl (Value_any _ bc4 bd n4 v4 Z4 hc4 (by omega)) (by repeat (first | exact Take.nil | apply Take.one (by repeat (first | exact Pick.here | apply Pick.there | apply Pick.far)) | apply Take.seg (by repeat (first | exact PickS.last | exact PickS.one | exact PickS.here | exact PickS.nil | apply PickS.there | apply PickS.far)) | exact Take.last (by repeat (first | exact PickS.last | exact PickS.one | exact PickS.here | exact PickS.nil | apply PickS.there | apply PickS.far)))) (fun v_ Y_ hY => ?_))
                        obtain ⟨Lz, rfl, hsz⟩ := hY
                        simp only [List.append_assoc, List.cons_append, List.nil_append]
                        refine ⟨(by repeat (first | exact Find.here | assumption | apply Find.there | apply Find.far)), ?_⟩
                        refine TK.one 2 (by decide +kernel) rfl rfl (V1.t (V1.slToStr ty_33 ty_5 ty_9 rfl hsz (by repeat (first | exact Sub.here | exact Sub.last | apply Sub.there | apply Sub.far))) ?_)
                        refine ⟨(by repeat (first | exact Find.here | assumption | apply Find.there | apply Find.far)), ?_⟩
                        refine TK.take 5 rfl (by decide +kernel) (by decide +kernel) (by decide +kernel) rfl (fun _ _ _ h => h) (fun L_ k1_ => V1.eqS (r := true) rfl rfl (decide_eq_true rfl)) ?_
                        refine TK.take 6 rfl (by decide +kernel) (by decide +kernel) (by decide +kernel) rfl (fun _ _ _ h => h) (fun L_ k1_ => V1.move' (by (conv => lhs; whnf) <;> rfl)) ?_
                        refine TK.take 7 rfl (by decide +kernel) (by decide +kernel) (by decide +kernel) rfl (fun _ _ _ h => h) (fun L_ k1_ => V1.fieldAddr fl_40_1 rfl) ?_
                        refine TK.take 8 rfl (by decide +kernel) (by decide +kernel) (by decide +kernel) rfl (fun _ _ _ h => h) (fun L_ k1_ => V1.load1 one_9 rfl (.own (cells := [.int .i64 (n4 : Nat), .string (bstr v4)]) (by repeat (first | exact Find.here | assumption | apply Find.there | apply Find.far)) (by rfl))) ?_
                        refine TK.take 9 rfl (by decide +kernel) (by decide +kernel) (by decide +kernel) rfl (fun _ _ _ h => h) (fun L_ k1_ => V1.move' (by (conv => lhs; whnf) <;> rfl)) ?_
                        refine TK.take 10 rfl (by decide +kernel) (by decide +kernel) (by decide +kernel) rfl (fun _ _ _ h => h) (fun L_ k1_ => V1.eqS (r := false) rfl rfl (decide_eq_false (fun h => hvo (bstr_inj h)))) ?_
                        refine TK.take 11 rfl (by decide +kernel) (by decide +kernel) (by decide +kernel) rfl (fun _ _ _ h => h) (fun L_ k1_ => V1.move' (by (conv => lhs; whnf) <;> rfl)) ?_
                        refine TK.take 12 rfl (by decide +kernel) (by decide +kernel) (by decide +kernel) rfl (fun _ _ _ h => h) (fun L_ k1_ => V1.fieldAddr fl_40_0 rfl) ?_
                        refine TK.take 13 rfl (by decide +kernel) (by decide +kernel) (by decide +kernel) rfl (fun _ _ _ h => h) (fun L_ k1_ => V1.load1 one_3 rfl (.own (cells := [.int .i64 (n4 : Nat), .string (bstr v4)]) (by repeat (first | exact Find.here | assumption | apply Find.there | apply Find.far)) (by rfl))) ?_
                        refine TK.take 14 rfl (by decide +kernel) (by decide +kernel) (by decide +kernel) rfl (fun _ _ _ h => h) (fun L_ k1_ => V1.gtI rfl rfl (decide_eq_true (by omega))) ?_
                        refine TK.take 15 rfl (by decide +kernel) (by decide +kernel) (by decide +kernel) rfl (fun _ _ _ h => h) (fun L_ k1_ => V1.pick rfl (by (conv => lhs; whnf) <;> rfl)) ?_
                        refine TK.take 16 rfl (by decide +kernel) (by decide +kernel) (by decide +kernel) rfl (fun _ _ _ h => h) (fun L_ k1_ => V1.pick rfl (by (conv => lhs; whnf) <;> rfl)) ?_
                        refine TK.take 17 rfl (by decide +kernel) (by decide +kernel) (by decide +kernel) rfl (fun _ _ _ h => h) (fun L_ k1_ => V1.assign' (by (conv => lhs; whnf) <;> rfl)) ?_
                        refine TD.done (by decide +kernel) ?_
                        refine T.ret ?_
                        exact ⟨_, [], _, .cons (.tmp (by (conv => lhs; whnf) <;> rfl)) .nil, Take.nil, rfl⟩

end Go.Proofs.Ytmolpgnekcfimaa.S
