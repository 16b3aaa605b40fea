/- The sums hang on all bytes in their order, not on where one part ends. -/
import Derived.Test.YtelcmllfojfbfaaSD
namespace Go.Proofs.Ytelcmllfojfbfaa.S
open Go.RowKit

open Sh
theorem flat_take (ps : List (List UInt8)) (k : Nat) : (ps.take k).flatten.length ≤ ps.flatten.length := by
  have h : ps.flatten = (ps.take k).flatten ++ (ps.drop k).flatten := by rw [← List.flatten_append, List.take_append_drop]
  rw [h, List.length_append]; omega
theorem flat_in {ps : List (List UInt8)} {p : List UInt8} (h : p ∈ ps) : p.length ≤ ps.flatten.length := by
  obtain ⟨k, hk, rfl⟩ := List.mem_iff_getElem.1 h
  have := flat_take ps (k + 1)
  rw [take_flat (List.getElem?_eq_getElem hk), List.length_append] at this
  omega

set_option maxRecDepth 100000 in
set_option maxHeartbeats 4000000 in
theorem ShaTwo_any (v0 v1 : Value) (sva svb : List Value) (pa pb : List (List UInt8)) (w0 : World) (hpa : PartsIn w0 v0 sva pa) (hpb : PartsIn w0 v1 svb pb) (hna : pa.length < 9223372036854775807) (hnb : pb.length < 9223372036854775807) (hfa : pa.flatten.length ≤ 100000000) (hfb : pb.flatten.length ≤ 100000000) : Fn P 11 [v0, v1] w0 [] (fun v _ => v = .bool true) := by
  obtain ⟨aa_, ac_, rfl⟩ := hpa.form
  obtain ⟨ba_, bc_, rfl⟩ := hpb.form
  refine Fn.of 63 [.tmp 4] Go.Proofs.Try.func11 rfl rfl rfl rfl ?_
  refine T.seq ?_
  refine T.region ?_
  refine TL.cons rfl (V1.t (V1.assign' (by (conv => lhs; whnf) <;> rfl)) ?_)
  refine TL.nil ?_
  refine T.seq ?_
  refine T.seq ?_
  refine T.region ?_
  refine TL.cons rfl (T1.call0 has_17 rfl (fun w hs => small_any w) (fun v hv => ?_))
  subst hv
  refine TL.cons rfl (V1.t (V1.not rfl rfl) ?_)
  refine TL.cons rfl (V1.t (V1.move' (by (conv => lhs; whnf) <;> rfl)) ?_)
  refine TL.cons rfl (T1.call0 has_21 rfl (fun w hs => large_any w) (fun v hv => ?_))
  subst hv
  refine TL.cons rfl (V1.t (V1.not rfl rfl) ?_)
  refine TL.cons rfl (V1.t (V1.pick rfl (by (conv => lhs; whnf) <;> rfl)) ?_)
  refine TL.nil ?_
  refine T.cond_f rfl ?_
  refine T.skip ?_
  refine T.seq ?_
  refine T.region ?_
  refine TL.cons rfl (V1.t (V1.assign' (by (conv => lhs; whnf) <;> rfl)) ?_)
  refine TL.cons rfl (V1.t (V1.assign' (by (conv => lhs; whnf) <;> rfl)) ?_)
  refine TL.nil ?_
  refine T.seq ?_
  refine T.seq ?_
  refine T.region ?_
  refine TL.cons rfl (V1.t (V1.move' (by (conv => lhs; whnf) <;> rfl)) ?_)
  refine TL.cons rfl (V1.t (V1.lenSl ty_44 rfl) ?_)
  refine TL.cons rfl (V1.t (V1.move' (by (conv => lhs; whnf) <;> rfl)) ?_)
  refine TL.nil ?_
  refine T.block ?_
  refine T.loopL (σ := Nat × Value × List Blk) (l0 := [(0, _), (1, _), (6, _), (17, _), (18, _)]) (fun x => [(19, .int .i64 (x.1 : Nat)), (5, x.2.1)]) (fun x L => L = x.2.2 ++ [] ∧ Sl x.2.1 ((pa.take x.1).flatten.map byteV) 1 x.2.2 ∧ x.1 ≤ pa.length) (fun x => pa.length - x.1) (0, .slice none 0 0, []) (.cons rfl (.cons rfl .nil)) (.cons (by (conv => lhs; whnf) <;> rfl) (.cons (by (conv => lhs; whnf) <;> rfl) (.cons (by (conv => lhs; whnf) <;> rfl) (.cons (by (conv => lhs; whnf) <;> rfl) (.cons (by (conv => lhs; whnf) <;> rfl) .nil))))) Take.nil (⟨(rfl : [] = _), Sl.nil, Nat.zero_le _⟩) ?_
  rintro ⟨i, av, La⟩ e_ L ⟨rfl, hsa, hi⟩
  simp only at hsa hi
  refine T.seq ?_
  refine T.region ?_
  refine TL.cons rfl (T1.ltI_split rfl rfl (fun h5 => ?_) (fun h5 => ?_))
  ·
    obtain ⟨ba_, oa_, sv, p, rfl, hpk, hin, hrd⟩ := hpa.at (P := P) (k := i) (by omega)
    obtain ⟨sa, sc, rfl⟩ := hin.form
    have htk := flat_take pa i
    have hpl := flat_in (List.mem_of_getElem? hpk)
    refine TL.nil ?_
    refine T.seq ?_
    refine T.cond_t rfl ?_
    refine T.skip ?_
    refine T.seq ?_
    refine T.block ?_
    refine T.seq ?_
    refine T.region ?_
    refine TL.cons rfl (V1.t (V1.indexAddrS ty_44 sz_22 rfl rfl (by omega) (by omega)) ?_)
    refine TL.cons rfl (V1.t (V1.load1 one_22 rfl (hrd _ rfl rfl _)) ?_)
    refine TL.cons rfl (V1.t (V1.assign' (by (conv => lhs; whnf) <;> rfl)) ?_)
    refine TL.nil ?_
    refine T.region ?_
    refine TL.cons rfl (V1.t (V1.move' (by (conv => lhs; whnf) <;> rfl)) ?_)
    refine TL.cons rfl (V1.t (V1.move' (by (conv => lhs; whnf) <;> rfl)) ?_)
    refine TL.cons rfl (T1.append ty_22 kd_22 sz_5 by_5 zr_5 rfl (by decide) (by decide) rfl rfl hsa (hin.src rfl) (one_bytes _) 200000000000000 (by simp only [List.length_map]; omega) (by omega) (by repeat (first | exact PickS.last | exact PickS.one | exact PickS.here | exact PickS.nil | apply PickS.there | apply PickS.far)) (fun s1 Ls1 hs1 => ?_))
    rw [← List.map_append, ← take_flat hpk] at hs1
    refine TL.cons rfl (V1.t (V1.assign' (by (conv => lhs; whnf) <;> rfl)) ?_)
    refine TL.nil ?_
    refine T.region ?_
    refine TL.cons rfl (V1.t (V1.add rfl rfl (wrap_i64 _ (by omega) (by omega))) ?_)
    refine TL.cons rfl (V1.t (V1.move' (by (conv => lhs; whnf) <;> rfl)) ?_)
    refine TL.nil ?_
    exact ⟨(i + 1, _, Ls1), _, _, (by simp only; omega), (.cons rfl (.cons rfl .nil)), (.cons rfl (.cons rfl (.cons rfl (.cons rfl (.cons rfl .nil))))), (by repeat (first | exact Take.nil | apply Take.one (by repeat (first | exact Pick.here | apply Pick.there | apply Pick.far)) | apply Take.seg (by repeat (first | exact PickS.last | exact PickS.one | exact PickS.here | exact PickS.nil | apply PickS.there | apply PickS.far)) | exact Take.last (by repeat (first | exact PickS.last | exact PickS.one | exact PickS.here | exact PickS.nil | apply PickS.there | apply PickS.far)))), ⟨rfl, hs1, by simp only; omega⟩⟩
  ·
    obtain rfl : i = pa.length := by omega
    rw [List.take_length] at hsa
    refine TL.nil ?_
    refine T.seq ?_
    refine T.cond_f rfl ?_
    refine T.exit ?_
    refine T.seq ?_
    refine T.seq ?_
    refine T.region ?_
    refine TL.cons rfl (V1.t (V1.move' (by (conv => lhs; whnf) <;> rfl)) ?_)
    refine TL.cons rfl (V1.t (V1.lenSl ty_44 rfl) ?_)
    refine TL.cons rfl (V1.t (V1.move' (by (conv => lhs; whnf) <;> rfl)) ?_)
    refine TL.nil ?_
    refine T.block ?_
    refine T.loopL (σ := Nat × Value × List Blk) (l0 := [(0, _), (1, _), (5, _), (27, _), (28, _)]) (fun x => [(29, .int .i64 (x.1 : Nat)), (6, x.2.1)]) (fun x L => L = x.2.2 ++ (La ++ []) ∧ Sl x.2.1 ((pb.take x.1).flatten.map byteV) 1 x.2.2 ∧ x.1 ≤ pb.length) (fun x => pb.length - x.1) (0, .slice none 0 0, []) (.cons rfl (.cons rfl .nil)) (.cons (by (conv => lhs; whnf) <;> rfl) (.cons (by (conv => lhs; whnf) <;> rfl) (.cons (by (conv => lhs; whnf) <;> rfl) (.cons (by (conv => lhs; whnf) <;> rfl) (.cons (by (conv => lhs; whnf) <;> rfl) .nil))))) (by repeat (first | exact Take.nil | apply Take.one (by repeat (first | exact Pick.here | apply Pick.there | apply Pick.far)) | apply Take.seg (by repeat (first | exact PickS.last | exact PickS.one | exact PickS.here | exact PickS.nil | apply PickS.there | apply PickS.far)) | exact Take.last (by repeat (first | exact PickS.last | exact PickS.one | exact PickS.here | exact PickS.nil | apply PickS.there | apply PickS.far)))) (⟨(rfl : La ++ [] = _), Sl.nil, Nat.zero_le _⟩) ?_
    rintro ⟨i, bv, Lb⟩ e_ L ⟨rfl, hsb, hi⟩
    simp only at hsb hi
    refine T.seq ?_
    refine T.region ?_
    refine TL.cons rfl (T1.ltI_split rfl rfl (fun h10 => ?_) (fun h10 => ?_))
    ·
      obtain ⟨ba_, oa_, sv, p, rfl, hpk, hin, hrd⟩ := hpb.at (P := P) (k := i) (by omega)
      obtain ⟨sa, sc, rfl⟩ := hin.form
      have htk := flat_take pb i
      have hpl := flat_in (List.mem_of_getElem? hpk)
      refine TL.nil ?_
      refine T.seq ?_
      refine T.cond_t rfl ?_
      refine T.skip ?_
      refine T.seq ?_
      refine T.block ?_
      refine T.seq ?_
      refine T.region ?_
      refine TL.cons rfl (V1.t (V1.indexAddrS ty_44 sz_22 rfl rfl (by omega) (by omega)) ?_)
      refine TL.cons rfl (V1.t (V1.load1 one_22 rfl (hrd _ rfl rfl _)) ?_)
      refine TL.cons rfl (V1.t (V1.assign' (by (conv => lhs; whnf) <;> rfl)) ?_)
      refine TL.nil ?_
      refine T.region ?_
      refine TL.cons rfl (V1.t (V1.move' (by (conv => lhs; whnf) <;> rfl)) ?_)
      refine TL.cons rfl (V1.t (V1.move' (by (conv => lhs; whnf) <;> rfl)) ?_)
      refine TL.cons rfl (T1.append ty_22 kd_22 sz_5 by_5 zr_5 rfl (by decide) (by decide) rfl rfl hsb (hin.src rfl) (one_bytes _) 200000000000000 (by simp only [List.length_map]; omega) (by omega) (by repeat (first | exact PickS.last | exact PickS.one | exact PickS.here | exact PickS.nil | apply PickS.there | apply PickS.far)) (fun s1 Ls1 hs1 => ?_))
      rw [← List.map_append, ← take_flat hpk] at hs1
      refine TL.cons rfl (V1.t (V1.assign' (by (conv => lhs; whnf) <;> rfl)) ?_)
      refine TL.nil ?_
      refine T.region ?_
      refine TL.cons rfl (V1.t (V1.add rfl rfl (wrap_i64 _ (by omega) (by omega))) ?_)
      refine TL.cons rfl (V1.t (V1.move' (by (conv => lhs; whnf) <;> rfl)) ?_)
      refine TL.nil ?_
      exact ⟨(i + 1, _, Ls1), _, _, (by simp only; omega), (.cons rfl (.cons rfl .nil)), (.cons rfl (.cons rfl (.cons rfl (.cons rfl (.cons rfl .nil))))), (by repeat (first | exact Take.nil | apply Take.one (by repeat (first | exact Pick.here | apply Pick.there | apply Pick.far)) | apply Take.seg (by repeat (first | exact PickS.last | exact PickS.one | exact PickS.here | exact PickS.nil | apply PickS.there | apply PickS.far)) | exact Take.last (by repeat (first | exact PickS.last | exact PickS.one | exact PickS.here | exact PickS.nil | apply PickS.there | apply PickS.far)))), ⟨rfl, hs1, by simp only; omega⟩⟩
    ·
      obtain rfl : i = pb.length := by omega
      rw [List.take_length] at hsb
      obtain ⟨aa, ac, rfl⟩ := (PartR.own (w0 := w0) (Ps := La) hsa (fun _ h => h)).form
      obtain ⟨ba, bc, rfl⟩ := (PartR.own (w0 := w0) (Ps := Lb) hsb (fun _ h => h)).form
      refine TL.nil ?_
      refine T.seq ?_
      refine T.cond_f rfl ?_
      refine T.exit ?_
      refine T.seq ?_
      refine T.seq ?_
      refine T.region ?_
      refine TL.cons rfl (V1.t (V1.move' (by (conv => lhs; whnf) <;> rfl)) ?_)
      refine TL.cons rfl (T1.callX (X := []) has_19 rfl (Sum256_any _ _ pa [] hpa.parts (fun p h => Nat.le_trans (flat_in h) (by omega)) (by omega) (by omega)) Take.nil (fun v Y_ hY => ?_))
      obtain ⟨rfl, hzz⟩ := hY
      rw [hzz, List.nil_append]
      refine TL.cons rfl (V1.t (V1.move' (by (conv => lhs; whnf) <;> rfl)) ?_)
      refine TL.cons rfl (T1.buildSl1 (os := [.tmp 39]) (vs := [.slice aa pa.flatten.length ac]) ty_44 sz_22 zr_22 (by decide) rfl (.cons (by (conv => lhs; whnf) <;> rfl) .nil) rfl (ones rfl) (fun b40 => ?_))
      refine TL.cons rfl (T1.callX (X := ((⟨b40, 0, [.slice aa pa.flatten.length ac], 1⟩ : Blk) :: La)) has_19 rfl (Sum256_any _ _ [pa.flatten] ((⟨b40, 0, [.slice aa pa.flatten.length ac], 1⟩ : Blk) :: La) (PartsR.ones (svs := [.slice aa pa.flatten.length ac]) (size := 1) (by simp) rfl (one_part (PartR.own hsa (fun _ h => List.mem_cons_of_mem _ h)))) (one_len (by omega)) (show 1 < 9223372036854775807 by decide) (by rw [show ([pa.flatten] : List (List UInt8)).flatten = pa.flatten from by simp]; omega)) (by repeat (first | exact Take.nil | apply Take.one (by repeat (first | exact Pick.here | apply Pick.there | apply Pick.far)) | apply Take.seg (by repeat (first | exact PickS.last | exact PickS.one | exact PickS.here | exact PickS.nil | apply PickS.there | apply PickS.far)) | exact Take.last (by repeat (first | exact PickS.last | exact PickS.one | exact PickS.here | exact PickS.nil | apply PickS.there | apply PickS.far)))) (fun v Y_ hY => ?_))
      obtain ⟨rfl, hzz⟩ := hY
      rw [hzz]
      simp only [List.cons_append, List.nil_append, List.append_assoc]
      rw [show ([pa.flatten] : List (List UInt8)).flatten = pa.flatten from by simp]
      refine TL.cons rfl (V1.t (V1.neBs (r := false) ty_26 ty_5 sz_5 eg_26 rfl rfl (sha_len _ _) (sha_len _ _) (by simp)) ?_)
      refine TL.cons rfl (V1.t (V1.move' (by (conv => lhs; whnf) <;> rfl)) ?_)
      refine TL.cons rfl (V1.t (V1.move' (by (conv => lhs; whnf) <;> rfl)) ?_)
      refine TL.cons rfl (T1.callX (X := []) has_22 rfl (Sum512_any _ _ pb [] hpb.parts (fun p h => Nat.le_trans (flat_in h) (by omega)) (by omega) (by omega)) Take.nil (fun v Y_ hY => ?_))
      obtain ⟨rfl, hzz⟩ := hY
      rw [hzz, List.nil_append]
      refine TL.cons rfl (V1.t (V1.move' (by (conv => lhs; whnf) <;> rfl)) ?_)
      refine TL.cons rfl (T1.buildSl1 (os := [.tmp 46]) (vs := [.slice ba pb.flatten.length bc]) ty_44 sz_22 zr_22 (by decide) rfl (.cons (by (conv => lhs; whnf) <;> rfl) .nil) rfl (ones rfl) (fun b47 => ?_))
      refine TL.cons rfl (T1.callX (X := ((⟨b47, 0, [.slice ba pb.flatten.length bc], 1⟩ : Blk) :: Lb)) has_22 rfl (Sum512_any _ _ [pb.flatten] ((⟨b47, 0, [.slice ba pb.flatten.length bc], 1⟩ : Blk) :: Lb) (PartsR.ones (svs := [.slice ba pb.flatten.length bc]) (size := 1) (by simp) rfl (one_part (PartR.own hsb (fun _ h => List.mem_cons_of_mem _ h)))) (one_len (by omega)) (show 1 < 9223372036854775807 by decide) (by rw [show ([pb.flatten] : List (List UInt8)).flatten = pb.flatten from by simp]; omega)) (by repeat (first | exact Take.nil | apply Take.one (by repeat (first | exact Pick.here | apply Pick.there | apply Pick.far)) | apply Take.seg (by repeat (first | exact PickS.last | exact PickS.one | exact PickS.here | exact PickS.nil | apply PickS.there | apply PickS.far)) | exact Take.last (by repeat (first | exact PickS.last | exact PickS.one | exact PickS.here | exact PickS.nil | apply PickS.there | apply PickS.far)))) (fun v Y_ hY => ?_))
      obtain ⟨rfl, hzz⟩ := hY
      rw [hzz]
      simp only [List.cons_append, List.nil_append, List.append_assoc]
      rw [show ([pb.flatten] : List (List UInt8)).flatten = pb.flatten from by simp]
      refine TL.cons rfl (V1.t (V1.neBs (r := false) ty_31 ty_5 sz_5 eg_31 rfl rfl (sha_len _ _) (sha_len _ _) (by simp)) ?_)
      refine TL.cons rfl (V1.t (V1.pick rfl (by (conv => lhs; whnf) <;> rfl)) ?_)
      refine TL.nil ?_
      refine T.cond_f rfl ?_
      refine T.skip ?_
      refine T.seq ?_
      refine T.live (l := [(0, _), (1, _), (5, _), (6, _)]) (.cons (by (conv => lhs; whnf) <;> rfl) (.cons (by (conv => lhs; whnf) <;> rfl) (.cons (by (conv => lhs; whnf) <;> rfl) (.cons (by (conv => lhs; whnf) <;> rfl) .nil)))) (fun e_ => ?_)
      refine T.region ?_
      refine TL.cons rfl (V1.t (V1.move' (by (conv => lhs; whnf) <;> rfl)) ?_)
      refine TL.cons rfl (V1.t (V1.bytesToStr (l := pa.flatten) ty_22 ty_5 ty_9 rfl ((PartR.own (w0 := w0) (Ps := La) hsa (fun _ h => h)).src _ rfl rfl _ (by intro B hB; simp only [List.mem_cons, List.mem_append]; simp [hB])) (by intro b h; cases h)) ?_)
      refine TL.cons rfl (V1.t (V1.move' (by (conv => lhs; whnf) <;> rfl)) ?_)
      refine TL.cons rfl (V1.t (V1.bytesToStr (l := pb.flatten) ty_22 ty_5 ty_9 rfl ((PartR.own (w0 := w0) (Ps := Lb) hsb (fun _ h => h)).src _ rfl rfl _ (by intro B hB; simp only [List.mem_cons, List.mem_append]; simp [hB])) (by intro b h; cases h)) ?_)
      refine TL.cons rfl (T1.neS_split rfl rfl (fun h16 => ?_) (fun h16 => ?_))
      ·
        refine TL.cons rfl (V1.t (V1.move' (by (conv => lhs; whnf) <;> rfl)) ?_)
        refine TL.no rfl ?_
        refine TL.no rfl ?_
        refine TL.no rfl ?_
        refine TL.no rfl ?_
        refine TL.no rfl ?_
        refine TL.cons rfl (V1.t (V1.pick rfl (by (conv => lhs; whnf) <;> rfl)) ?_)
        refine TL.cons rfl (V1.t (V1.assign' (by (conv => lhs; whnf) <;> rfl)) ?_)
        refine TL.nil ?_
        refine T.ret ?_
        exact ⟨_, [], _, .cons (.tmp (by (conv => lhs; whnf) <;> rfl)) .nil, Take.nil, rfl⟩
      ·
        refine TL.cons rfl (V1.t (V1.move' (by (conv => lhs; whnf) <;> rfl)) ?_)
        refine TL.cons rfl (V1.t (V1.move' (by (conv => lhs; whnf) <;> rfl)) ?_)
        refine TL.cons rfl (T1.callX (X := []) has_22 rfl (Sum512_any _ _ pa [] hpa.parts (fun p h => Nat.le_trans (flat_in h) (by omega)) (by omega) (by omega)) Take.nil (fun v Y_ hY => ?_))
        obtain ⟨rfl, hzz⟩ := hY
        rw [hzz, List.nil_append]
        refine TL.cons rfl (V1.t (V1.move' (by (conv => lhs; whnf) <;> rfl)) ?_)
        refine TL.cons rfl (T1.callX (X := []) has_22 rfl (Sum512_any _ _ pb [] hpb.parts (fun p h => Nat.le_trans (flat_in h) (by omega)) (by omega) (by omega)) Take.nil (fun v Y_ hY => ?_))
        obtain ⟨rfl, hzz⟩ := hY
        rw [hzz, List.nil_append]
        refine TL.cons rfl (V1.t (V1.eqBs (r := true) ty_31 ty_5 sz_5 eg_31 rfl rfl (sha_len _ _) (sha_len _ _) (by rw [h16]; simp)) ?_)
        refine TL.cons rfl (V1.t (V1.pick rfl (by (conv => lhs; whnf) <;> rfl)) ?_)
        refine TL.cons rfl (V1.t (V1.assign' (by (conv => lhs; whnf) <;> rfl)) ?_)
        refine TL.nil ?_
        refine T.ret ?_
        exact ⟨_, [], _, .cons (.tmp (by (conv => lhs; whnf) <;> rfl)) .nil, Take.nil, rfl⟩

end Go.Proofs.Ytelcmllfojfbfaa.S
