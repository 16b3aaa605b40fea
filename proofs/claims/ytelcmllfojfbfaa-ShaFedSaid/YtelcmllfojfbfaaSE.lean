/- A hash to which bytes come in in any parts comes to the sums of all that came so far. -/
import Derived.Test.YtelcmllfojfbfaaSD
namespace Go.Proofs.Ytelcmllfojfbfaa.S
open Go.RowKit

open Sh

set_option maxRecDepth 100000 in
set_option maxHeartbeats 8000000 in
theorem ShaFed_any (v0 : Value) (svs : List Value) (ps : List (List UInt8)) (w0 : World) (hp : PartsIn w0 v0 svs ps) (hpn : ps.length ≤ 9223372036854775807) : Fn P 15 [v0] w0 [] (fun v _ => v = .bool true) := by
  obtain ⟨pa, pc, rfl⟩ := hp.form
  refine Fn.of 97 [.tmp 2] Go.Proofs.Try.func15 rfl rfl rfl rfl ?_
  refine T.seq ?_
  refine T.region ?_
  refine TL.cons rfl (V1.t (V1.assign' (by (conv => lhs; whnf) <;> rfl)) ?_)
  refine TL.nil ?_
  refine T.seq ?_
  refine T.seq ?_
  refine T.region ?_
  refine TL.cons rfl (T1.call0 has_17 rfl (fun w hs => small_any w) (fun v hv => ?_))
  subst hv
  refine TL.cons rfl (V1.t (V1.not rfl rfl) ?_)
  refine TL.cons rfl (V1.t (V1.move' (by (conv => lhs; whnf) <;> rfl)) ?_)
  refine TL.cons rfl (T1.call0 has_21 rfl (fun w hs => large_any w) (fun v hv => ?_))
  subst hv
  refine TL.cons rfl (V1.t (V1.not rfl rfl) ?_)
  refine TL.cons rfl (V1.t (V1.pick rfl (by (conv => lhs; whnf) <;> rfl)) ?_)
  refine TL.nil ?_
  refine T.cond_f rfl ?_
  refine T.skip ?_
  refine T.seq ?_
  refine T.region ?_
  refine TL.cons rfl (T1.callN has_35 rfl (fun w hs => New256_any w) (fun v X0 hY => ?_))
  obtain ⟨b7_, rfl, h_7⟩ := hY
  refine TL.cons rfl (T1.callN has_37 rfl (fun w hs => New512_any w) (fun v Y0 hY => ?_))
  obtain ⟨b8_, rfl, h_8⟩ := hY
  refine TL.cons rfl (V1.t (V1.assign' (by (conv => lhs; whnf) <;> rfl)) ?_)
  refine TL.cons rfl (V1.t (V1.assign' (by (conv => lhs; whnf) <;> rfl)) ?_)
  refine TL.nil ?_
  refine T.seq ?_
  refine T.seq ?_
  refine T.region ?_
  refine TL.cons rfl (V1.t (V1.move' (by (conv => lhs; whnf) <;> rfl)) ?_)
  refine TL.cons rfl (V1.t (V1.eqNil ty_40 rfl rfl) ?_)
  refine TL.cons rfl (V1.t (V1.move' (by (conv => lhs; whnf) <;> rfl)) ?_)
  refine TL.cons rfl (V1.t (V1.move' (by (conv => lhs; whnf) <;> rfl)) ?_)
  refine TL.cons rfl (V1.t (V1.eqNil ty_66 rfl rfl) ?_)
  refine TL.cons rfl (V1.t (V1.pick rfl (by (conv => lhs; whnf) <;> rfl)) ?_)
  refine TL.nil ?_
  refine T.cond_f rfl ?_
  refine T.skip ?_
  refine T.seq ?_
  refine T.live (l := [(0, _), (3, _), (4, _)]) (.cons (by (conv => lhs; whnf) <;> rfl) (.cons (by (conv => lhs; whnf) <;> rfl) (.cons (by (conv => lhs; whnf) <;> rfl) .nil))) (fun e_ => ?_)
  refine T.region ?_
  refine TL.cons rfl (V1.t (V1.assign' (by (conv => lhs; whnf) <;> rfl)) ?_)
  refine TL.nil ?_
  refine T.seq ?_
  refine T.seq ?_
  refine T.region ?_
  refine TL.cons rfl (V1.t (V1.move' (by (conv => lhs; whnf) <;> rfl)) ?_)
  refine TL.cons rfl (V1.t (V1.lenSl ty_44 rfl) ?_)
  refine TL.cons rfl (V1.t (V1.move' (by (conv => lhs; whnf) <;> rfl)) ?_)
  refine TL.nil ?_
  refine T.block ?_
  refine T.loopL (σ := Nat × Value × List UInt8 × List Blk × List Blk × List Blk) (l0 := [(3, _), (4, _), (22, _), (23, _)]) (fun x => [(24, .int .i64 (x.1 : Nat)), (5, x.2.1)]) (fun x L => L = x.2.2.2.1 ++ (x.2.2.2.2.1 ++ (x.2.2.2.2.2 ++ [])) ∧ Sl x.2.1 (x.2.2.1.map byteV) 1 x.2.2.2.1 ∧ HB T256 w32 b7_ x.2.2.1 x.2.2.2.2.1 ∧ HB T512 w64 b8_ x.2.2.1 x.2.2.2.2.2 ∧ x.1 ≤ ps.length ∧ x.2.2.1.length ≤ 3500) (fun x => ps.length - x.1) (0, .slice none 0 0, [], [], X0, Y0) (.cons rfl (.cons rfl .nil)) (.cons (by (conv => lhs; whnf) <;> rfl) (.cons (by (conv => lhs; whnf) <;> rfl) (.cons (by (conv => lhs; whnf) <;> rfl) (.cons (by (conv => lhs; whnf) <;> rfl) .nil)))) (by repeat (first | exact Take.nil | apply Take.one (by repeat (first | exact Pick.here | apply Pick.there | apply Pick.far)) | apply Take.seg (by repeat (first | exact PickS.last | exact PickS.one | exact PickS.here | exact PickS.nil | apply PickS.there | apply PickS.far)) | exact Take.last (by repeat (first | exact PickS.last | exact PickS.one | exact PickS.here | exact PickS.nil | apply PickS.there | apply PickS.far)))) (⟨(rfl : X0 ++ (Y0 ++ []) = _), Sl.nil, h_7, h_8, Nat.zero_le _, Nat.zero_le _⟩) ?_
  rintro ⟨i, av, q, La, X, Y⟩ e_ L ⟨rfl, hsl, h7, h8, hi, hq⟩
  simp only at hsl h7 h8 hi hq
  obtain ⟨aa, ac, rfl⟩ := (PartR.own (w0 := w0) (Ps := La) hsl (fun _ h => h)).form
  refine T.seq ?_
  refine T.region ?_
  refine TL.cons rfl (T1.ltI_split rfl rfl (fun h8_0 => ?_) (fun h8_0 => ?_))
  ·
    obtain ⟨ba_, oa_, sv, p, rfl, hpk, hin, hrd⟩ := hp.at (P := P) (k := i) (by omega)
    obtain ⟨sa, sc, rfl⟩ := hin.form
    refine TL.nil ?_
    refine T.seq ?_
    refine T.cond_t rfl ?_
    refine T.skip ?_
    refine T.seq ?_
    refine T.block ?_
    refine T.seq ?_
    refine T.region ?_
    refine TL.cons rfl (V1.t (V1.move' (by (conv => lhs; whnf) <;> rfl)) ?_)
    refine TL.cons rfl (V1.t (V1.indexAddrS ty_44 sz_22 rfl rfl (by omega) (by omega)) ?_)
    refine TL.cons rfl (V1.t (V1.load1 one_22 rfl (hrd _ rfl rfl _)) ?_)
    refine TL.cons rfl (V1.t (V1.assign' (by (conv => lhs; whnf) <;> rfl)) ?_)
    refine TL.cons rfl (V1.t (V1.assign' (by (conv => lhs; whnf) <;> rfl)) ?_)
    refine TL.nil ?_
    refine T.seq ?_
    refine T.seq ?_
    refine T.region ?_
    refine TL.cons rfl (V1.t (V1.move' (by (conv => lhs; whnf) <;> rfl)) ?_)
    refine TL.cons rfl (T1.gtI_split rfl rfl (fun h10_1 => ?_) (fun h10_1 => ?_))
    ·
      refine TL.cons rfl (V1.t (V1.move' (by (conv => lhs; whnf) <;> rfl)) ?_)
      refine TL.no rfl ?_
      refine TL.no rfl ?_
      refine TL.no rfl ?_
      refine TL.cons rfl (V1.t (V1.pick rfl (by (conv => lhs; whnf) <;> rfl)) ?_)
      refine TL.nil ?_
      refine T.cond_t rfl ?_
      refine T.exit ?_
      refine T.seq ?_
      refine T.region ?_
      refine TL.cons rfl (V1.t (V1.move' (by (conv => lhs; whnf) <;> rfl)) ?_)
      refine TL.cons rfl (T1.callX (X := X) has_36 rfl (HSum256_any _ b7_ (q) X h7 (by omega)) (by repeat (first | exact Take.nil | apply Take.one (by repeat (first | exact Pick.here | apply Pick.there | apply Pick.far)) | apply Take.seg (by repeat (first | exact PickS.last | exact PickS.one | exact PickS.here | exact PickS.nil | apply PickS.there | apply PickS.far)) | exact Take.last (by repeat (first | exact PickS.last | exact PickS.one | exact PickS.here | exact PickS.nil | apply PickS.there | apply PickS.far)))) (fun v3 Z hZ => ?_))
      obtain ⟨rfl, hzz⟩ := hZ
      rw [hzz]
      refine TL.cons rfl (V1.t (V1.move' (by (conv => lhs; whnf) <;> rfl)) ?_)
      refine TL.cons rfl (T1.buildSl1 (os := [.tmp 93]) (vs := [.slice aa q.length ac]) ty_44 sz_22 zr_22 (by decide) rfl (.cons (by (conv => lhs; whnf) <;> rfl) .nil) rfl (ones rfl) (fun b94 => ?_))
      refine TL.cons rfl (T1.callX (X := ((⟨b94, 0, [.slice aa q.length ac], 1⟩ : Blk) :: La)) has_19 rfl (Sum256_any _ _ [q] ((⟨b94, 0, [.slice aa q.length ac], 1⟩ : Blk) :: La) (PartsR.ones (svs := [.slice aa q.length ac]) (size := 1) (by simp) rfl (one_part (PartR.own hsl (fun _ h => List.mem_cons_of_mem _ h)))) (one_len (by omega)) (show 1 < 9223372036854775807 by decide) (by simp; omega)) (by repeat (first | exact Take.nil | apply Take.one (by repeat (first | exact Pick.here | apply Pick.there | apply Pick.far)) | apply Take.seg (by repeat (first | exact PickS.last | exact PickS.one | exact PickS.here | exact PickS.nil | apply PickS.there | apply PickS.far)) | exact Take.last (by repeat (first | exact PickS.last | exact PickS.one | exact PickS.here | exact PickS.nil | apply PickS.there | apply PickS.far)))) (fun v Y_ hY => ?_))
      obtain ⟨rfl, hzz⟩ := hY
      rw [hzz]
      simp only [List.cons_append, List.nil_append, List.append_assoc]
      rw [show ([q] : List (List UInt8)).flatten = q from by simp]
      refine TL.cons rfl (V1.t (V1.eqBs (r := true) ty_26 ty_5 sz_5 eg_26 rfl rfl (sha_len _ _) (sha_len _ _) (by simp)) ?_)
      refine TL.cons rfl (V1.t (V1.assign' (by (conv => lhs; whnf) <;> rfl)) ?_)
      refine TL.nil ?_
      refine T.ret ?_
      exact ⟨_, [], _, .cons (.tmp (by (conv => lhs; whnf) <;> rfl)) .nil, Take.nil, rfl⟩
    ·
      refine TL.cons rfl (V1.t (V1.move' (by (conv => lhs; whnf) <;> rfl)) ?_)
      refine TL.cons rfl (V1.t (V1.move' (by (conv => lhs; whnf) <;> rfl)) ?_)
      refine TL.cons rfl (V1.t (V1.lenSl ty_22 rfl) ?_)
      refine TL.cons rfl (T1.gtI_split rfl rfl (fun h10_5 => ?_) (fun h10_5 => ?_))
      ·
        refine TL.cons rfl (V1.t (V1.pick rfl (by (conv => lhs; whnf) <;> rfl)) ?_)
        refine TL.nil ?_
        refine T.cond_t rfl ?_
        refine T.exit ?_
        refine T.seq ?_
        refine T.region ?_
        refine TL.cons rfl (V1.t (V1.move' (by (conv => lhs; whnf) <;> rfl)) ?_)
        refine TL.cons rfl (T1.callX (X := X) has_36 rfl (HSum256_any _ b7_ (q) X h7 (by omega)) (by repeat (first | exact Take.nil | apply Take.one (by repeat (first | exact Pick.here | apply Pick.there | apply Pick.far)) | apply Take.seg (by repeat (first | exact PickS.last | exact PickS.one | exact PickS.here | exact PickS.nil | apply PickS.there | apply PickS.far)) | exact Take.last (by repeat (first | exact PickS.last | exact PickS.one | exact PickS.here | exact PickS.nil | apply PickS.there | apply PickS.far)))) (fun v3 Z hZ => ?_))
        obtain ⟨rfl, hzz⟩ := hZ
        rw [hzz]
        refine TL.cons rfl (V1.t (V1.move' (by (conv => lhs; whnf) <;> rfl)) ?_)
        refine TL.cons rfl (T1.buildSl1 (os := [.tmp 93]) (vs := [.slice aa q.length ac]) ty_44 sz_22 zr_22 (by decide) rfl (.cons (by (conv => lhs; whnf) <;> rfl) .nil) rfl (ones rfl) (fun b94 => ?_))
        refine TL.cons rfl (T1.callX (X := ((⟨b94, 0, [.slice aa q.length ac], 1⟩ : Blk) :: La)) has_19 rfl (Sum256_any _ _ [q] ((⟨b94, 0, [.slice aa q.length ac], 1⟩ : Blk) :: La) (PartsR.ones (svs := [.slice aa q.length ac]) (size := 1) (by simp) rfl (one_part (PartR.own hsl (fun _ h => List.mem_cons_of_mem _ h)))) (one_len (by omega)) (show 1 < 9223372036854775807 by decide) (by simp; omega)) (by repeat (first | exact Take.nil | apply Take.one (by repeat (first | exact Pick.here | apply Pick.there | apply Pick.far)) | apply Take.seg (by repeat (first | exact PickS.last | exact PickS.one | exact PickS.here | exact PickS.nil | apply PickS.there | apply PickS.far)) | exact Take.last (by repeat (first | exact PickS.last | exact PickS.one | exact PickS.here | exact PickS.nil | apply PickS.there | apply PickS.far)))) (fun v Y_ hY => ?_))
        obtain ⟨rfl, hzz⟩ := hY
        rw [hzz]
        simp only [List.cons_append, List.nil_append, List.append_assoc]
        rw [show ([q] : List (List UInt8)).flatten = q from by simp]
        refine TL.cons rfl (V1.t (V1.eqBs (r := true) ty_26 ty_5 sz_5 eg_26 rfl rfl (sha_len _ _) (sha_len _ _) (by simp)) ?_)
        refine TL.cons rfl (V1.t (V1.assign' (by (conv => lhs; whnf) <;> rfl)) ?_)
        refine TL.nil ?_
        refine T.ret ?_
        exact ⟨_, [], _, .cons (.tmp (by (conv => lhs; whnf) <;> rfl)) .nil, Take.nil, rfl⟩
      ·
        refine TL.cons rfl (V1.t (V1.pick rfl (by (conv => lhs; whnf) <;> rfl)) ?_)
        refine TL.nil ?_
        refine T.cond_f rfl ?_
        refine T.skip ?_
        refine T.seq ?_
        refine T.region ?_
        refine TL.cons rfl (V1.t (V1.move' (by (conv => lhs; whnf) <;> rfl)) ?_)
        refine TL.cons rfl (T1.call0 has_18 rfl (fun w hs => cut_in w0 _ p 500 w hin) (fun v hv => ?_))
        obtain ⟨m, hm⟩ : ∃ m, m = p.take 500 := ⟨_, rfl⟩
        have hml : m.length ≤ 500 := by rw [hm, List.length_take]; omega
        rw [← hm] at hv
        obtain ⟨ma, mc, rfl⟩ := hv.form
        obtain ⟨n, hn⟩ : ∃ n, n = m.length / 2 := ⟨_, rfl⟩
        have hnm : n ≤ m.length := by omega
        have hfi := inV_is hv 0 n (Nat.zero_le _) hnm
        have hba := inV_is hv n m.length hnm (Nat.le_refl _)
        rw [Nat.sub_zero, List.drop_zero] at hfi
        rw [List.take_of_length_le (show (m.drop n).length ≤ m.length - n by rw [List.length_drop]; exact Nat.le_refl _)] at hba
        obtain ⟨fa, fc, hfe⟩ := hfi.form
        rw [hfe] at hfi
        obtain ⟨ba, bc, hbe⟩ := hba.form
        rw [hbe] at hba
        have hfl1 : (m.take n).length ≤ 500 := by rw [List.length_take]; omega
        have hfl2 : (m.drop n).length ≤ 500 := by rw [List.length_drop]; omega
        refine TL.cons rfl (V1.t (V1.assign' (by (conv => lhs; whnf) <;> rfl)) ?_)
        refine TL.nil ?_
        refine T.seq ?_
        refine T.live (l := [(3, _), (4, _), (5, _), (7, _), (22, _), (23, _), (24, _)]) (.cons (by (conv => lhs; whnf) <;> rfl) (.cons (by (conv => lhs; whnf) <;> rfl) (.cons (by (conv => lhs; whnf) <;> rfl) (.cons (by (conv => lhs; whnf) <;> rfl) (.cons (by (conv => lhs; whnf) <;> rfl) (.cons (by (conv => lhs; whnf) <;> rfl) (.cons (by (conv => lhs; whnf) <;> rfl) .nil))))))) (fun e_ => ?_)
        refine T.region ?_
        refine TL.cons rfl (V1.t (V1.move' (by (conv => lhs; whnf) <;> rfl)) ?_)
        refine TL.cons rfl (V1.t (V1.move' (by (conv => lhs; whnf) <;> rfl)) ?_)
        refine TL.cons rfl (T1.append ty_22 kd_22 sz_5 by_5 zr_5 rfl (by decide) (by decide) rfl rfl hsl (hv.src rfl) (one_bytes _) 200000000000000 (by simp only [List.length_map]; omega) (by omega) (by repeat (first | exact PickS.last | exact PickS.one | exact PickS.here | exact PickS.nil | apply PickS.there | apply PickS.far)) (fun s1 Ls1 hs1 => ?_))
        rw [← List.map_append] at hs1
        obtain ⟨ga, gc, rfl⟩ := (PartR.own (w0 := w0) (Ps := Ls1) hs1 (fun _ h => h)).form
        refine TL.cons rfl (V1.t (V1.assign' (by (conv => lhs; whnf) <;> rfl)) ?_)
        refine TL.nil ?_
        refine T.seq ?_
        refine T.region ?_
        refine TL.cons rfl (V1.t (V1.move' (by (conv => lhs; whnf) <;> rfl)) ?_)
        refine TL.cons rfl (V1.t (V1.move' (by (conv => lhs; whnf) <;> rfl)) ?_)
        refine TL.cons rfl (T1.buildSl1 (os := [.tmp 42]) (vs := [.slice ma m.length mc]) ty_44 sz_22 zr_22 (by decide) rfl (.cons (by (conv => lhs; whnf) <;> rfl) .nil) rfl (ones rfl) (fun b43 => ?_))
        refine TL.cons rfl (T1.callX (X := X ++ [(⟨b43, 0, [.slice ma m.length mc], 1⟩ : Blk)]) has_28 rfl (Write256_any _ b7_ _ q [m] X [(⟨b43, 0, [.slice ma m.length mc], 1⟩ : Blk)] h7 (PartsR.ones (svs := [.slice ma m.length mc]) (size := 1) (by simp) rfl (one_part hv.part)) (one_len (by omega)) (show 1 < 9223372036854775807 by decide)) (by repeat (first | exact Take.nil | apply Take.one (by repeat (first | exact Pick.here | apply Pick.there | apply Pick.far)) | apply Take.seg (by repeat (first | exact PickS.last | exact PickS.one | exact PickS.here | exact PickS.nil | apply PickS.there | apply PickS.far)) | exact Take.last (by repeat (first | exact PickS.last | exact PickS.one | exact PickS.here | exact PickS.nil | apply PickS.there | apply PickS.far)))) (fun v2 Z hZ => ?_))
        obtain ⟨X2, h7', rfl⟩ := hZ
        rw [show ([m] : List (List UInt8)).flatten = m from by simp] at h7'
        simp only [List.append_assoc, List.cons_append, List.nil_append]
        refine TL.nil ?_
        refine T.seq ?_
        refine T.drawK (fun L_ => True) mixed trivial ?_
        refine TK.take 0 rfl (by decide +kernel) (by decide +kernel) (by decide +kernel) rfl (fun _ _ _ h => h) (fun L_ _ => V1.move' (by (conv => lhs; whnf) <;> rfl)) ?_
        refine TK.take 1 rfl (by decide +kernel) (by decide +kernel) (by decide +kernel) rfl (fun _ _ _ h => h) (fun L_ _ => V1.move' (by (conv => lhs; whnf) <;> rfl)) ?_
        refine TK.take 2 rfl (by decide +kernel) (by decide +kernel) (by decide +kernel) rfl (fun _ _ _ h => h) (fun L_ _ => V1.move' (by (conv => lhs; whnf) <;> rfl)) ?_
        refine TK.take 3 rfl (by decide +kernel) (by decide +kernel) (by decide +kernel) rfl (fun _ _ _ h => h) (fun L_ _ => V1.lenSl ty_22 rfl) ?_
        refine TK.take 4 rfl (by decide +kernel) (by decide +kernel) (by decide +kernel) rfl (fun _ _ _ h => h) (fun L_ _ => V1.quo (c := ((n : Nat) : Int)) rfl rfl (by decide) (by rw [show ((m.length : Int).tdiv 2) = ((m.length / 2 : Nat) : Int) from tquoN m.length 2, ← hn]; exact wrap_i64 _ (by omega) (by omega))) ?_
        refine TK.take 5 rfl (by decide +kernel) (by decide +kernel) (by decide +kernel) rfl (fun _ _ _ h => h) (fun L_ _ => show V1 _ _ _ _ (.slice fa (m.take n).length fc) from by rw [← hfe]; exact V1.sliceIn ty_22 sz_5 hv rfl (0) (n) rfl rfl (by omega) (by omega)) ?_
        refine TK.take 6 rfl (by decide +kernel) (by decide +kernel) (by decide +kernel) rfl (fun _ _ _ h => h) (fun L_ _ => V1.move' (by (conv => lhs; whnf) <;> rfl)) ?_
        refine TK.take 7 rfl (by decide +kernel) (by decide +kernel) (by decide +kernel) rfl (fun _ _ _ h => h) (fun L_ _ => V1.move' (by (conv => lhs; whnf) <;> rfl)) ?_
        refine TK.take 8 rfl (by decide +kernel) (by decide +kernel) (by decide +kernel) rfl (fun _ _ _ h => h) (fun L_ _ => V1.lenSl ty_22 rfl) ?_
        refine TK.take 9 rfl (by decide +kernel) (by decide +kernel) (by decide +kernel) rfl (fun _ _ _ h => h) (fun L_ _ => V1.quo (c := ((n : Nat) : Int)) rfl rfl (by decide) (by rw [show ((m.length : Int).tdiv 2) = ((m.length / 2 : Nat) : Int) from tquoN m.length 2, ← hn]; exact wrap_i64 _ (by omega) (by omega))) ?_
        refine TK.take 10 rfl (by decide +kernel) (by decide +kernel) (by decide +kernel) rfl (fun _ _ _ h => h) (fun L_ _ => show V1 _ _ _ _ (.slice ba (m.drop n).length bc) from by rw [← hbe]; exact V1.sliceIn ty_22 sz_5 hv rfl (n) (m.length) rfl rfl (by omega) (by omega)) ?_
        refine TK.one 11 (by decide +kernel) rfl rfl (T1.buildSl1 (os := [.tmp 50, .const (.slice none 0 0), .tmp 55]) (vs := [.slice fa (m.take n).length fc, .slice none 0 0, .slice ba (m.drop n).length bc]) ty_44 sz_22 zr_22 (by decide) rfl (.cons (by (conv => lhs; whnf) <;> rfl) (.cons (by (conv => lhs; whnf) <;> rfl) (.cons (by (conv => lhs; whnf) <;> rfl) .nil))) rfl (ones rfl) (fun b56 => ?_))
        refine ⟨trivial, ?_⟩
        refine TK.one 12 (by decide +kernel) rfl rfl (T1.callX (X := Y ++ [(⟨b56, 0, [.slice fa (m.take n).length fc, .slice none 0 0, .slice ba (m.drop n).length bc], 3⟩ : Blk)]) has_38 rfl (Write512_any _ b8_ _ q [m.take n, [], m.drop n] Y [(⟨b56, 0, [.slice fa (m.take n).length fc, .slice none 0 0, .slice ba (m.drop n).length bc], 3⟩ : Blk)] h8 (PartsR.ones (svs := [.slice fa (m.take n).length fc, .slice none 0 0, .slice ba (m.drop n).length bc]) (size := 3) (by simp) rfl (three_parts hfi.part PartR.nought hba.part)) (three_len (by omega) (by simp) (by omega)) (show 3 < 9223372036854775807 by decide)) (by repeat (first | exact Take.nil | apply Take.one (by repeat (first | exact Pick.here | apply Pick.there | apply Pick.far)) | apply Take.seg (by repeat (first | exact PickS.last | exact PickS.one | exact PickS.here | exact PickS.nil | apply PickS.there | apply PickS.far)) | exact Take.last (by repeat (first | exact PickS.last | exact PickS.one | exact PickS.here | exact PickS.nil | apply PickS.there | apply PickS.far)))) (fun v2 Z hZ => ?_))
        obtain ⟨Y2, h8', rfl⟩ := hZ
        rw [show ([m.take n, [], m.drop n] : List (List UInt8)).flatten = m from by simp] at h8'
        simp only [List.append_assoc, List.cons_append, List.nil_append]
        refine ⟨trivial, ?_⟩
        refine TD.done (by decide +kernel) ?_
        refine T.seq ?_
        refine T.live (l := [(3, _), (4, _), (5, _), (22, _), (23, _), (24, _)]) (.cons (by (conv => lhs; whnf) <;> rfl) (.cons (by (conv => lhs; whnf) <;> rfl) (.cons (by (conv => lhs; whnf) <;> rfl) (.cons (by (conv => lhs; whnf) <;> rfl) (.cons (by (conv => lhs; whnf) <;> rfl) (.cons (by (conv => lhs; whnf) <;> rfl) .nil)))))) (fun e_ => ?_)
        refine T.region ?_
        refine TL.cons rfl (V1.t (V1.move' (by (conv => lhs; whnf) <;> rfl)) ?_)
        refine TL.cons rfl (T1.callX (X := X2) has_36 rfl (HSum256_any _ b7_ (q ++ m) X2 h7' (by simp only [List.length_append]; omega)) (by repeat (first | exact Take.nil | apply Take.one (by repeat (first | exact Pick.here | apply Pick.there | apply Pick.far)) | apply Take.seg (by repeat (first | exact PickS.last | exact PickS.one | exact PickS.here | exact PickS.nil | apply PickS.there | apply PickS.far)) | exact Take.last (by repeat (first | exact PickS.last | exact PickS.one | exact PickS.here | exact PickS.nil | apply PickS.there | apply PickS.far)))) (fun v3 Z hZ => ?_))
        obtain ⟨rfl, hzz⟩ := hZ
        rw [hzz]
        refine TL.cons rfl (V1.t (V1.move' (by (conv => lhs; whnf) <;> rfl)) ?_)
        refine TL.cons rfl (T1.buildSl1 (os := [.tmp 60]) (vs := [.slice ga (q ++ m).length gc]) ty_44 sz_22 zr_22 (by decide) rfl (.cons (by (conv => lhs; whnf) <;> rfl) .nil) rfl (ones rfl) (fun b61 => ?_))
        refine TL.cons rfl (T1.callX (X := ((⟨b61, 0, [.slice ga (q ++ m).length gc], 1⟩ : Blk) :: Ls1)) has_19 rfl (Sum256_any _ _ [q ++ m] ((⟨b61, 0, [.slice ga (q ++ m).length gc], 1⟩ : Blk) :: Ls1) (PartsR.ones (svs := [.slice ga (q ++ m).length gc]) (size := 1) (by simp) rfl (one_part (PartR.own hs1 (fun _ h => List.mem_cons_of_mem _ h)))) (one_len (by simp only [List.length_append]; omega)) (show 1 < 9223372036854775807 by decide) (by simp; omega)) (by repeat (first | exact Take.nil | apply Take.one (by repeat (first | exact Pick.here | apply Pick.there | apply Pick.far)) | apply Take.seg (by repeat (first | exact PickS.last | exact PickS.one | exact PickS.here | exact PickS.nil | apply PickS.there | apply PickS.far)) | exact Take.last (by repeat (first | exact PickS.last | exact PickS.one | exact PickS.here | exact PickS.nil | apply PickS.there | apply PickS.far)))) (fun v Y_ hY => ?_))
        obtain ⟨rfl, hzz⟩ := hY
        rw [hzz]
        simp only [List.cons_append, List.nil_append, List.append_assoc]
        rw [show ([q ++ m] : List (List UInt8)).flatten = q ++ m from by simp]
        refine TL.cons rfl (V1.t (V1.neBs (r := false) ty_26 ty_5 sz_5 eg_26 rfl rfl (sha_len _ _) (sha_len _ _) (by simp)) ?_)
        refine TL.cons rfl (V1.t (V1.move' (by (conv => lhs; whnf) <;> rfl)) ?_)
        refine TL.cons rfl (V1.t (V1.move' (by (conv => lhs; whnf) <;> rfl)) ?_)
        refine TL.cons rfl (T1.callX (X := Y2) has_39 rfl (HSum512_any _ b8_ (q ++ m) Y2 h8' (by simp only [List.length_append]; omega)) (by repeat (first | exact Take.nil | apply Take.one (by repeat (first | exact Pick.here | apply Pick.there | apply Pick.far)) | apply Take.seg (by repeat (first | exact PickS.last | exact PickS.one | exact PickS.here | exact PickS.nil | apply PickS.there | apply PickS.far)) | exact Take.last (by repeat (first | exact PickS.last | exact PickS.one | exact PickS.here | exact PickS.nil | apply PickS.there | apply PickS.far)))) (fun v3 Z hZ => ?_))
        obtain ⟨rfl, hzz⟩ := hZ
        rw [hzz]
        refine TL.cons rfl (V1.t (V1.move' (by (conv => lhs; whnf) <;> rfl)) ?_)
        refine TL.cons rfl (T1.buildSl1 (os := [.tmp 67]) (vs := [.slice ga (q ++ m).length gc]) ty_44 sz_22 zr_22 (by decide) rfl (.cons (by (conv => lhs; whnf) <;> rfl) .nil) rfl (ones rfl) (fun b68 => ?_))
        refine TL.cons rfl (T1.callX (X := ((⟨b68, 0, [.slice ga (q ++ m).length gc], 1⟩ : Blk) :: Ls1)) has_22 rfl (Sum512_any _ _ [q ++ m] ((⟨b68, 0, [.slice ga (q ++ m).length gc], 1⟩ : Blk) :: Ls1) (PartsR.ones (svs := [.slice ga (q ++ m).length gc]) (size := 1) (by simp) rfl (one_part (PartR.own hs1 (fun _ h => List.mem_cons_of_mem _ h)))) (one_len (by simp only [List.length_append]; omega)) (show 1 < 9223372036854775807 by decide) (by simp; omega)) (by repeat (first | exact Take.nil | apply Take.one (by repeat (first | exact Pick.here | apply Pick.there | apply Pick.far)) | apply Take.seg (by repeat (first | exact PickS.last | exact PickS.one | exact PickS.here | exact PickS.nil | apply PickS.there | apply PickS.far)) | exact Take.last (by repeat (first | exact PickS.last | exact PickS.one | exact PickS.here | exact PickS.nil | apply PickS.there | apply PickS.far)))) (fun v Y_ hY => ?_))
        obtain ⟨rfl, hzz⟩ := hY
        rw [hzz]
        simp only [List.cons_append, List.nil_append, List.append_assoc]
        rw [show ([q ++ m] : List (List UInt8)).flatten = q ++ m from by simp]
        refine TL.cons rfl (V1.t (V1.neBs (r := false) ty_31 ty_5 sz_5 eg_31 rfl rfl (sha_len _ _) (sha_len _ _) (by simp)) ?_)
        refine TL.cons rfl (V1.t (V1.pick rfl (by (conv => lhs; whnf) <;> rfl)) ?_)
        refine TL.cons rfl (V1.t (V1.move' (by (conv => lhs; whnf) <;> rfl)) ?_)
        refine TL.cons rfl (V1.t (V1.move' (by (conv => lhs; whnf) <;> rfl)) ?_)
        refine TL.cons rfl (V1.t (V1.nilCheck rfl) ?_)
        refine TL.cons rfl (V1.t (V1.fieldAddr fl_52_0 rfl) ?_)
        refine TL.cons rfl (T1.callX (X := X2) has_31 rfl (Count_any T256 w32 _ b7_ (q ++ m) X2 h7' (by simp only [List.length_append]; omega)) (by repeat (first | exact Take.nil | apply Take.one (by repeat (first | exact Pick.here | apply Pick.there | apply Pick.far)) | apply Take.seg (by repeat (first | exact PickS.last | exact PickS.one | exact PickS.here | exact PickS.nil | apply PickS.there | apply PickS.far)) | exact Take.last (by repeat (first | exact PickS.last | exact PickS.one | exact PickS.here | exact PickS.nil | apply PickS.there | apply PickS.far)))) (fun v3 Z hZ => ?_))
        obtain ⟨rfl, hzz⟩ := hZ
        rw [hzz]
        refine TL.cons rfl (V1.t (V1.move' (by (conv => lhs; whnf) <;> rfl)) ?_)
        refine TL.cons rfl (V1.t (V1.lenSl ty_22 rfl) ?_)
        refine TL.cons rfl (V1.t (V1.neI (r := false) rfl rfl (by simp)) ?_)
        refine TL.cons rfl (V1.t (V1.pick rfl (by (conv => lhs; whnf) <;> rfl)) ?_)
        refine TL.cons rfl (V1.t (V1.move' (by (conv => lhs; whnf) <;> rfl)) ?_)
        refine TL.cons rfl (V1.t (V1.move' (by (conv => lhs; whnf) <;> rfl)) ?_)
        refine TL.cons rfl (V1.t (V1.nilCheck rfl) ?_)
        refine TL.cons rfl (V1.t (V1.fieldAddr fl_72_0 rfl) ?_)
        refine TL.cons rfl (T1.callX (X := Y2) has_31 rfl (Count_any T512 w64 _ b8_ (q ++ m) Y2 h8' (by simp only [List.length_append]; omega)) (by repeat (first | exact Take.nil | apply Take.one (by repeat (first | exact Pick.here | apply Pick.there | apply Pick.far)) | apply Take.seg (by repeat (first | exact PickS.last | exact PickS.one | exact PickS.here | exact PickS.nil | apply PickS.there | apply PickS.far)) | exact Take.last (by repeat (first | exact PickS.last | exact PickS.one | exact PickS.here | exact PickS.nil | apply PickS.there | apply PickS.far)))) (fun v3 Z hZ => ?_))
        obtain ⟨rfl, hzz⟩ := hZ
        rw [hzz]
        refine TL.cons rfl (V1.t (V1.move' (by (conv => lhs; whnf) <;> rfl)) ?_)
        refine TL.cons rfl (V1.t (V1.lenSl ty_22 rfl) ?_)
        refine TL.cons rfl (V1.t (V1.neI (r := false) rfl rfl (by simp)) ?_)
        refine TL.cons rfl (V1.t (V1.pick rfl (by (conv => lhs; whnf) <;> rfl)) ?_)
        refine TL.nil ?_
        refine T.cond_f rfl ?_
        refine T.skip ?_
        refine T.live (l := [(3, _), (4, _), (5, _), (22, _), (23, _), (24, _)]) (.cons (by (conv => lhs; whnf) <;> rfl) (.cons (by (conv => lhs; whnf) <;> rfl) (.cons (by (conv => lhs; whnf) <;> rfl) (.cons (by (conv => lhs; whnf) <;> rfl) (.cons (by (conv => lhs; whnf) <;> rfl) (.cons (by (conv => lhs; whnf) <;> rfl) .nil)))))) (fun e_ => ?_)
        refine T.region ?_
        refine TL.cons rfl (V1.t (V1.add rfl rfl (wrap_i64 _ (by omega) (by omega))) ?_)
        refine TL.cons rfl (V1.t (V1.move' (by (conv => lhs; whnf) <;> rfl)) ?_)
        refine TL.nil ?_
        exact ⟨(i + 1, _, q ++ m, Ls1, X2, Y2), _, _, (by simp only; omega), (.cons rfl (.cons rfl .nil)), (.cons rfl (.cons rfl (.cons rfl (.cons rfl .nil)))), (by repeat (first | exact Take.nil | apply Take.one (by repeat (first | exact Pick.here | apply Pick.there | apply Pick.far)) | apply Take.seg (by repeat (first | exact PickS.last | exact PickS.one | exact PickS.here | exact PickS.nil | apply PickS.there | apply PickS.far)) | exact Take.last (by repeat (first | exact PickS.last | exact PickS.one | exact PickS.here | exact PickS.nil | apply PickS.there | apply PickS.far)))), ⟨rfl, hs1, h7', h8', by simp only; omega, by simp only [List.length_append]; omega⟩⟩
  ·
    refine TL.nil ?_
    refine T.seq ?_
    refine T.cond_f rfl ?_
    refine T.exit ?_
    refine T.seq ?_
    refine T.region ?_
    refine TL.cons rfl (V1.t (V1.move' (by (conv => lhs; whnf) <;> rfl)) ?_)
    refine TL.cons rfl (T1.callX (X := X) has_36 rfl (HSum256_any _ b7_ (q) X h7 (by omega)) (by repeat (first | exact Take.nil | apply Take.one (by repeat (first | exact Pick.here | apply Pick.there | apply Pick.far)) | apply Take.seg (by repeat (first | exact PickS.last | exact PickS.one | exact PickS.here | exact PickS.nil | apply PickS.there | apply PickS.far)) | exact Take.last (by repeat (first | exact PickS.last | exact PickS.one | exact PickS.here | exact PickS.nil | apply PickS.there | apply PickS.far)))) (fun v3 Z hZ => ?_))
    obtain ⟨rfl, hzz⟩ := hZ
    rw [hzz]
    refine TL.cons rfl (V1.t (V1.move' (by (conv => lhs; whnf) <;> rfl)) ?_)
    refine TL.cons rfl (T1.buildSl1 (os := [.tmp 93]) (vs := [.slice aa q.length ac]) ty_44 sz_22 zr_22 (by decide) rfl (.cons (by (conv => lhs; whnf) <;> rfl) .nil) rfl (ones rfl) (fun b94 => ?_))
    refine TL.cons rfl (T1.callX (X := ((⟨b94, 0, [.slice aa q.length ac], 1⟩ : Blk) :: La)) has_19 rfl (Sum256_any _ _ [q] ((⟨b94, 0, [.slice aa q.length ac], 1⟩ : Blk) :: La) (PartsR.ones (svs := [.slice aa q.length ac]) (size := 1) (by simp) rfl (one_part (PartR.own hsl (fun _ h => List.mem_cons_of_mem _ h)))) (one_len (by omega)) (show 1 < 9223372036854775807 by decide) (by simp; omega)) (by repeat (first | exact Take.nil | apply Take.one (by repeat (first | exact Pick.here | apply Pick.there | apply Pick.far)) | apply Take.seg (by repeat (first | exact PickS.last | exact PickS.one | exact PickS.here | exact PickS.nil | apply PickS.there | apply PickS.far)) | exact Take.last (by repeat (first | exact PickS.last | exact PickS.one | exact PickS.here | exact PickS.nil | apply PickS.there | apply PickS.far)))) (fun v Y_ hY => ?_))
    obtain ⟨rfl, hzz⟩ := hY
    rw [hzz]
    simp only [List.cons_append, List.nil_append, List.append_assoc]
    rw [show ([q] : List (List UInt8)).flatten = q from by simp]
    refine TL.cons rfl (V1.t (V1.eqBs (r := true) ty_26 ty_5 sz_5 eg_26 rfl rfl (sha_len _ _) (sha_len _ _) (by simp)) ?_)
    refine TL.cons rfl (V1.t (V1.assign' (by (conv => lhs; whnf) <;> rfl)) ?_)
    refine TL.nil ?_
    refine T.ret ?_
    exact ⟨_, [], _, .cons (.tmp (by (conv => lhs; whnf) <;> rfl)) .nil, Take.nil, rfl⟩

end Go.Proofs.Ytelcmllfojfbfaa.S
