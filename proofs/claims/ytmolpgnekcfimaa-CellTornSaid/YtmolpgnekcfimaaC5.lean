/- Another value is kept. -/
import Derived.Test.YtmolpgnekcfimaaC4
namespace Go.Proofs.Ytmolpgnekcfimaa.S
open Go.RowKit

open Sh
theorem three_parts {w0 : World} {Ps : List Blk} {v u x : Value} {p q r : List UInt8} (h : PartR w0 Ps v p) (g : PartR w0 Ps u q) (f : PartR w0 Ps x r) : ∀ (i : Nat) (sv : Value) (s : List UInt8), [v, u, x][i]? = some sv → [p, q, r][i]? = some s → PartR w0 Ps sv s := by
  intro i sv s h1 h2
  match i with
  | 0 => cases h1; cases h2; exact h
  | 1 => cases h1; cases h2; exact g
  | 2 => cases h1; cases h2; exact f
  | i + 3 => simp at h1
/-- What keeping answers, and what lies there then. -/
def KpR (bc bd ba r n : Nat) (v a : List UInt8) (pw : Int) (ps : List (List UInt8)) (Z Ps : List Blk) (res : Value) (Y : List Blk) : Prop :=
  (r - 44 < ps.flatten.length ∧ res = .int .i64 3 ∧ Y = Z ++ ((⟨bd, 0, [.slice (some ⟨ba, 0, none⟩) a.length a.length, .int .i64 pw], 2⟩ : Blk) :: (⟨ba, 0, List.map byteV a, a.length⟩ : Blk) :: Ps)) ∨
  (ps.flatten.length ≤ r - 44 ∧ (wN pw (recB (n + 1) ps.flatten).length) < (recB (n + 1) ps.flatten).length ∧ res = .int .i64 220 ∧ Y = Z ++ ((⟨bd, 0, [.slice (some ⟨ba, 0, none⟩) a.length a.length, .int .i64 (pwF pw (wN pw (recB (n + 1) ps.flatten).length))], 2⟩ : Blk) :: (⟨ba, 0, List.map byteV (splice a ((n + 1) % 2 * r) ((recB (n + 1) ps.flatten).take (wN pw (recB (n + 1) ps.flatten).length))), a.length⟩ : Blk) :: Ps)) ∨
  (ps.flatten.length ≤ r - 44 ∧ (wN pw (recB (n + 1) ps.flatten).length) = (recB (n + 1) ps.flatten).length ∧ res = .int .i64 0 ∧ ∃ Z', Cl bc bd (n + 1) ps.flatten Z' ∧ Y = Z' ++ ((⟨bd, 0, [.slice (some ⟨ba, 0, none⟩) a.length a.length, .int .i64 (pwF pw (wN pw (recB (n + 1) ps.flatten).length))], 2⟩ : Blk) :: (⟨ba, 0, List.map byteV (splice a ((n + 1) % 2 * r) ((recB (n + 1) ps.flatten).take (wN pw (recB (n + 1) ps.flatten).length))), a.length⟩ : Blk) :: Ps))
theorem wN_le (pw : Int) (n : Nat) : wN pw n ≤ n := by unfold wN; split <;> omega

set_option maxRecDepth 100000 in
set_option maxHeartbeats 4000000 in
theorem Keep_any (w0 : World) (bc bd ba r n : Nat) (pv : Value) (v a : List UInt8) (pw : Int) (ps : List (List UInt8)) (Z Ps : List Blk) (hc : Cl bc bd n v Z) (hn : n < 1000000) (hp : PartsR w0 Ps pv ps) (hpn : ps.length ≤ 9223372036854775807) (ha : a.length = 2 * r) (hr1 : 64 ≤ r) (hr2 : r ≤ 65536) (hpw : -1 ≤ pw) (hpw2 : pw < 9223372036854775808) : FnX P 10 [.pointer (some ⟨bc, 0, none⟩), pv] w0 [] (Z ++ ((⟨bd, 0, [.slice (some ⟨ba, 0, none⟩) a.length a.length, .int .i64 pw], 2⟩ : Blk) :: (⟨ba, 0, List.map byteV a, a.length⟩ : Blk) :: Ps)) (fun res Y => KpR bc bd ba r n v a pw ps Z Ps res Y) := by
  obtain ⟨pa, pc, rfl⟩ := hp.form
  obtain ⟨s0, Lv, rfl, hs0⟩ := hc
  have hal : a.length ≤ 1000000 := by omega
  refine FnX.of 80 [.tmp 4] Go.Proofs.Try.func10 rfl rfl rfl rfl (fun G => ?_)
  simp only [List.cons_append, List.append_assoc]
  refine T.seq ?_
  refine T.region ?_
  refine TL.cons rfl (V1.t (V1.assign' (by (conv => lhs; whnf) <;> rfl)) ?_)
  refine TL.nil ?_
  refine T.seq ?_
  refine T.region ?_
  refine TL.cons rfl (V1.t (V1.assign' (by (conv => lhs; whnf) <;> rfl)) ?_)
  refine TL.nil ?_
  refine T.seq ?_
  refine T.seq ?_
  refine T.region ?_
  refine TL.cons rfl (V1.t (V1.move' (by (conv => lhs; whnf) <;> rfl)) ?_)
  refine TL.cons rfl (V1.t (V1.lenSl ty_22 rfl) ?_)
  refine TL.cons rfl (V1.t (V1.move' (by (conv => lhs; whnf) <;> rfl)) ?_)
  refine TL.nil ?_
  refine T.block ?_
  refine T.loopL (σ := Nat × Value × List Blk) (l0 := [(0, _), (12, _), (13, _)]) (fun x => [(14, .int .i64 (x.1 : Nat)), (5, x.2.1)]) (fun x L => L = x.2.2 ++ (⟨bc, 0, [.int .u64 (n : Nat), s0, .pointer (some ⟨bd, 0, none⟩)], 3⟩ :: (Lv ++ ((⟨bd, 0, [.slice (some ⟨ba, 0, none⟩) a.length a.length, .int .i64 pw], 2⟩ : Blk) :: (⟨ba, 0, List.map byteV a, a.length⟩ : Blk) :: (Ps ++ G)))) ∧ Sl x.2.1 ((ps.take x.1).flatten.map byteV) 1 x.2.2 ∧ x.1 ≤ ps.length ∧ (ps.take x.1).flatten.length ≤ r - 44) (fun x => ps.length - x.1) (0, .slice none 0 0, []) (.cons rfl (.cons rfl .nil)) (.cons (by (conv => lhs; whnf) <;> rfl) (.cons (by (conv => lhs; whnf) <;> rfl) (.cons (by (conv => lhs; whnf) <;> rfl) .nil))) (by repeat (first | exact Take.nil | apply Take.one (by repeat (first | exact Pick.here | apply Pick.there | apply Pick.far)) | apply Take.seg (by repeat (first | exact PickS.last | exact PickS.one | exact PickS.here | exact PickS.nil | apply PickS.there | apply PickS.far)) | exact Take.last (by repeat (first | exact PickS.last | exact PickS.one | exact PickS.here | exact PickS.nil | apply PickS.there | apply PickS.far)))) (⟨(rfl : ⟨bc, 0, [.int .u64 (n : Nat), s0, .pointer (some ⟨bd, 0, none⟩)], 3⟩ :: (Lv ++ ((⟨bd, 0, [.slice (some ⟨ba, 0, none⟩) a.length a.length, .int .i64 pw], 2⟩ : Blk) :: (⟨ba, 0, List.map byteV a, a.length⟩ : Blk) :: (Ps ++ G))) = _), Sl.nil, Nat.zero_le _, Nat.zero_le _⟩) ?_
  rintro ⟨k, av, Ls⟩ e_ L ⟨rfl, hsl, hk, hacc⟩
  simp only at hsl hk hacc
  refine T.seq ?_
  refine T.region ?_
  refine TL.cons rfl (T1.ltI_split rfl rfl (fun h3 => ?_) (fun h3 => ?_))
  ·
    simp only at h3
    obtain ⟨bb_, ob_, sv, p, rfl, hpk, hpr, hrd⟩ := hp.at (P := P) (k := k) (by omega)
    obtain ⟨sa, sc, rfl⟩ := hpr.form
    obtain ⟨xa, xc, rfl⟩ := (PartR.own (w0 := w0) (Ps := Ls) hsl (fun _ h => h)).form
    have hfl := flat_take ps (k + 1)
    rw [take_flat hpk, List.length_append] at hfl
    refine TL.nil ?_
    refine T.seq ?_
    refine T.cond_t rfl ?_
    refine T.skip ?_
    refine T.seq ?_
    refine T.block ?_
    refine T.seq ?_
    refine T.region ?_
    refine TL.cons rfl (V1.t (V1.indexAddrS ty_22 sz_33 rfl rfl (by omega) (by omega)) ?_)
    refine TL.cons rfl (V1.t (V1.load1 one_33 rfl (hrd _ rfl rfl _ (by intro B hB; simp only [List.mem_cons, List.mem_append]; simp [hB]))) ?_)
    refine TL.cons rfl (V1.t (V1.assign' (by (conv => lhs; whnf) <;> rfl)) ?_)
    refine TL.nil ?_
    refine T.seq ?_
    refine T.seq ?_
    refine T.region ?_
    refine TL.cons rfl (V1.t (V1.move' (by (conv => lhs; whnf) <;> rfl)) ?_)
    refine TL.cons rfl (V1.t (V1.lenSl ty_33 rfl) ?_)
    refine TL.cons rfl (V1.t (V1.move' (by (conv => lhs; whnf) <;> rfl)) ?_)
    refine TL.cons rfl (V1.t (V1.nilCheck rfl) ?_)
    refine TL.cons rfl (V1.t (V1.fieldAddr fl_57_1 rfl) ?_)
    refine TL.cons rfl (V1.t (V1.load1 one_25 rfl (.own (cells := [.int .u64 (n : Nat), s0, .pointer (some ⟨bd, 0, none⟩)]) (by repeat (first | exact Find.here | assumption | apply Find.there | apply Find.far)) (by rfl))) ?_)
    refine TL.cons rfl (T1.callX (X := [(⟨bd, 0, [.slice (some ⟨ba, 0, none⟩) a.length a.length, .int .i64 pw], 2⟩ : Blk)]) has_20 rfl (room_any _ bd ba a.length pw hal) (by repeat (first | exact Take.nil | apply Take.one (by repeat (first | exact Pick.here | apply Pick.there | apply Pick.far)) | apply Take.seg (by repeat (first | exact PickS.last | exact PickS.one | exact PickS.here | exact PickS.nil | apply PickS.there | apply PickS.far)) | exact Take.last (by repeat (first | exact PickS.last | exact PickS.one | exact PickS.here | exact PickS.nil | apply PickS.there | apply PickS.far)))) (fun v Y hY => ?_))
    obtain ⟨rfl, rfl⟩ := hY
    simp only [List.cons_append, List.nil_append]
    rw [show a.length / 2 = r from by omega]
    refine TL.cons rfl (V1.t (V1.sub (c := ((r - 44 : Nat) : Int)) rfl rfl (by rw [wrap_i64 _ (by omega) (by omega)]; omega)) ?_)
    refine TL.cons rfl (V1.t (V1.move' (by (conv => lhs; whnf) <;> rfl)) ?_)
    refine TL.cons rfl (V1.t (V1.lenSl ty_33 rfl) ?_)
    refine TL.cons rfl (V1.t (V1.sub (c := ((r - 44 - (ps.take k).flatten.length : Nat) : Int)) rfl rfl (by rw [wrap_i64 _ (by omega) (by omega)]; omega)) ?_)
    refine TL.cons rfl (T1.gtI_split rfl rfl (fun h5 => ?_) (fun h5 => ?_))
    ·
      refine TL.nil ?_
      refine T.cond_t rfl ?_
      refine T.seq ?_
      refine T.live (l := []) .nil (fun e_ => ?_)
      refine T.region ?_
      refine TL.cons rfl (V1.t (V1.assign' (by (conv => lhs; whnf) <;> rfl)) ?_)
      refine TL.nil ?_
      refine T.ret ?_
      exact ⟨_, ⟨bc, 0, [.int .u64 (n : Nat), s0, .pointer (some ⟨bd, 0, none⟩)], 3⟩ :: (Lv ++ ((⟨bd, 0, [.slice (some ⟨ba, 0, none⟩) a.length a.length, .int .i64 pw], 2⟩ : Blk) :: (⟨ba, 0, List.map byteV a, a.length⟩ : Blk) :: (Ps ++ G))), _, .cons (.tmp (by (conv => lhs; whnf) <;> rfl)) .nil, (by repeat (first | exact Take.nil | apply Take.one (by repeat (first | exact Pick.here | apply Pick.there | apply Pick.far)) | apply Take.seg (by repeat (first | exact PickS.last | exact PickS.one | exact PickS.here | exact PickS.nil | apply PickS.there | apply PickS.far)) | exact Take.last (by repeat (first | exact PickS.last | exact PickS.one | exact PickS.here | exact PickS.nil | apply PickS.there | apply PickS.far)))), (⟨bc, 0, [.int .u64 (n : Nat), s0, .pointer (some ⟨bd, 0, none⟩)], 3⟩ :: Lv) ++ ((⟨bd, 0, [.slice (some ⟨ba, 0, none⟩) a.length a.length, .int .i64 pw], 2⟩ : Blk) :: (⟨ba, 0, List.map byteV a, a.length⟩ : Blk) :: Ps), by simp, .inl ⟨by omega, rfl, rfl⟩⟩
    ·
      refine TL.nil ?_
      refine T.cond_f rfl ?_
      refine T.skip ?_
      refine T.live (l := [(0, _), (5, _), (7, _), (12, _), (13, _), (14, _)]) (.cons (by (conv => lhs; whnf) <;> rfl) (.cons (by (conv => lhs; whnf) <;> rfl) (.cons (by (conv => lhs; whnf) <;> rfl) (.cons (by (conv => lhs; whnf) <;> rfl) (.cons (by (conv => lhs; whnf) <;> rfl) (.cons (by (conv => lhs; whnf) <;> rfl) .nil)))))) (fun e_ => ?_)
      refine T.region ?_
      refine TL.cons rfl (V1.t (V1.move' (by (conv => lhs; whnf) <;> rfl)) ?_)
      refine TL.cons rfl (V1.t (V1.move' (by (conv => lhs; whnf) <;> rfl)) ?_)
      refine TL.cons rfl (T1.append ty_33 kd_33 sz_5 by_5 zr_5 rfl (by decide) (by decide) rfl rfl hsl (hpr.src _ rfl rfl _ (by intro B hB; simp only [List.mem_cons, List.mem_append]; simp [hB])) (one_bytes _) 200000000000000 (by simp only [List.length_map]; omega) (by omega) (by repeat (first | exact PickS.last | exact PickS.one | exact PickS.here | exact PickS.nil | apply PickS.there | apply PickS.far)) (fun s1 Ls1 hs1 => ?_))
      rw [← List.map_append, ← take_flat hpk] at hs1
      refine TL.cons rfl (V1.t (V1.assign' (by (conv => lhs; whnf) <;> rfl)) ?_)
      refine TL.nil ?_
      refine T.region ?_
      refine TL.cons rfl (V1.t (V1.add rfl rfl (wrap_i64 _ (by omega) (by omega))) ?_)
      refine TL.cons rfl (V1.t (V1.move' (by (conv => lhs; whnf) <;> rfl)) ?_)
      refine TL.nil ?_
      exact ⟨(k + 1, _, Ls1), _, _, (by simp only; omega), (.cons rfl (.cons rfl .nil)), (.cons rfl (.cons rfl (.cons rfl .nil))), (by repeat (first | exact Take.nil | apply Take.one (by repeat (first | exact Pick.here | apply Pick.there | apply Pick.far)) | apply Take.seg (by repeat (first | exact PickS.last | exact PickS.one | exact PickS.here | exact PickS.nil | apply PickS.there | apply PickS.far)) | exact Take.last (by repeat (first | exact PickS.last | exact PickS.one | exact PickS.here | exact PickS.nil | apply PickS.there | apply PickS.far)))), ⟨rfl, hs1, by simp only; omega, by simp only; rw [take_flat hpk, List.length_append]; omega⟩⟩
  ·
    simp only at h3
    obtain rfl : k = ps.length := by omega
    rw [List.take_length] at hsl hacc
    obtain ⟨aa, ac, rfl⟩ := (PartR.own (w0 := w0) (Ps := Ls) hsl (fun _ h => h)).form
    refine TL.nil ?_
    refine T.seq ?_
    refine T.cond_f rfl ?_
    refine T.exit ?_
    refine T.seq ?_
    refine T.region ?_
    refine TL.cons rfl (V1.t (V1.move' (by (conv => lhs; whnf) <;> rfl)) ?_)
    refine TL.cons rfl (V1.t (V1.nilCheck rfl) ?_)
    refine TL.cons rfl (V1.t (V1.fieldAddr fl_57_0 rfl) ?_)
    refine TL.cons rfl (V1.t (V1.fieldAddr fl_55_0 rfl) ?_)
    refine TL.cons rfl (V1.t (V1.load1 one_32 rfl (.own (cells := [.int .u64 (n : Nat), s0, .pointer (some ⟨bd, 0, none⟩)]) (by repeat (first | exact Find.here | assumption | apply Find.there | apply Find.far)) (by rfl))) ?_)
    refine TL.cons rfl (V1.t (V1.add (c := ((n + 1 : Nat) : Int)) rfl rfl (by rw [wrap_u64 _ (by omega) (by omega)]; omega)) ?_)
    refine TL.cons rfl (V1.t (V1.move' (by (conv => lhs; whnf) <;> rfl)) ?_)
    refine TL.cons rfl (V1.t (V1.buildF pl_55 zr_55 (.one rfl (by (conv => lhs; whnf) <;> rfl) rfl (.one rfl (by (conv => lhs; whnf) <;> rfl) rfl .nil)) (by repeat (first | exact FillL.nil | exact SetN.done | apply SetN.here | apply SetN.there | apply FillL.cons))) ?_)
    refine TL.cons rfl (T1.allocN 2 zr_55 rfl (fun b8 => ?_))
    refine TL.cons rfl (T1.storeN (vs := [.int .u64 ((n + 1 : Nat) : Int), .slice aa ps.flatten.length ac]) rfl rfl sz_55 (ones rfl) (by repeat (first | exact Sub.one | apply Sub.there | apply Sub.far)) (by rfl) (by rfl) ?_)
    refine TL.nil ?_
    refine T.seq ?_
    refine T.region ?_
    refine TL.cons rfl (V1.t (V1.fieldAddr fl_55_0 rfl) ?_)
    refine TL.cons rfl (V1.t (V1.load1 one_32 rfl (.own (cells := [.int .u64 ((n + 1 : Nat) : Int), .slice aa ps.flatten.length ac]) (by repeat (first | exact Find.here | assumption | apply Find.there | apply Find.far)) (by rfl))) ?_)
    refine TL.cons rfl (T1.callN has_21 rfl (fun w hs => digits_any (n + 1) 8 w (by omega) (by decide)) (fun v8 Y8 h8 => ?_))
    refine TL.cons rfl (V1.t (V1.move' (by (conv => lhs; whnf) <;> rfl)) ?_)
    refine TL.cons rfl (V1.t (V1.lenSl ty_33 rfl) ?_)
    refine TL.cons rfl (V1.t (V1.conv (c := ((ps.flatten.length : Nat) : Int)) ty_3 ty_32 rfl (wrap_u64 _ (by omega) (by omega))) ?_)
    refine TL.cons rfl (T1.callN has_21 rfl (fun w hs => digits_any ps.flatten.length 4 w (by omega) (by decide)) (fun v4 Y4 h4 => ?_))
    refine TL.cons rfl (T1.append ty_33 kd_33 sz_5 by_5 zr_5 rfl (by decide) (by decide) rfl rfl h8 ((PartR.own (w0 := w0) (Ps := Y4) h4 (fun _ h => h)).src _ rfl rfl _ (by intro B hB; simp only [List.mem_cons, List.mem_append]; simp [hB])) (one_bytes _) 200000000000000 (by simp only [List.length_map, dig_len]; omega) (by omega) (by repeat (first | exact PickS.last | exact PickS.one | exact PickS.here | exact PickS.nil | apply PickS.there | apply PickS.far)) (fun s1 Ls1 hs1 => ?_))
    rw [← List.map_append] at hs1
    obtain ⟨fa, fc, rfl⟩ := (PartR.own (w0 := w0) (Ps := Ls1) hs1 (fun _ h => h)).form
    refine TL.cons rfl (V1.t (V1.assign' (by (conv => lhs; whnf) <;> rfl)) ?_)
    refine TL.nil ?_
    refine T.seq ?_
    refine T.live (l := [(0, _), (5, _), (8, _), (9, _)]) (.cons (by (conv => lhs; whnf) <;> rfl) (.cons (by (conv => lhs; whnf) <;> rfl) (.cons (by (conv => lhs; whnf) <;> rfl) (.cons (by (conv => lhs; whnf) <;> rfl) .nil)))) (fun e_ => ?_)
    refine T.region ?_
    refine TL.cons rfl (V1.t (V1.move' (by (conv => lhs; whnf) <;> rfl)) ?_)
    refine TL.cons rfl (V1.t (V1.move' (by (conv => lhs; whnf) <;> rfl)) ?_)
    refine TL.cons rfl (T1.buildSl1 (os := [.tmp 50, .tmp 51]) (vs := [.slice fa (dig (n + 1) 8 ++ dig ps.flatten.length 4).length fc, .slice aa ps.flatten.length ac]) ty_22 sz_33 zr_33 (by decide) rfl (.cons rfl (.cons rfl .nil)) rfl (ones rfl) (fun b52 => ?_))
    refine TL.cons rfl (T1.callX (X := (⟨b52, 0, [.slice fa (dig (n + 1) 8 ++ dig ps.flatten.length 4).length fc, .slice aa ps.flatten.length ac], 2⟩ :: (Ls1 ++ Ls) : List Blk)) has_22 rfl (Sum256_any _ _ [(dig (n + 1) 8 ++ dig ps.flatten.length 4), ps.flatten] (⟨b52, 0, [.slice fa (dig (n + 1) 8 ++ dig ps.flatten.length 4).length fc, .slice aa ps.flatten.length ac], 2⟩ :: (Ls1 ++ Ls)) (PartsR.ones (svs := [.slice fa (dig (n + 1) 8 ++ dig ps.flatten.length 4).length fc, .slice aa ps.flatten.length ac]) (size := 2) (by simp) rfl (two_parts (PartR.own hs1 (fun _ h => by simp [h])) (PartR.own hsl (fun _ h => by simp [h])))) (two_len (by simp only [List.length_append, dig_len]; omega) (by omega)) (show 2 < 9223372036854775807 by decide) (by rw [show ([(dig (n + 1) 8 ++ dig ps.flatten.length 4), ps.flatten] : List (List UInt8)).flatten = (dig (n + 1) 8 ++ dig ps.flatten.length 4) ++ ps.flatten from by simp]; simp only [List.length_append, dig_len]; omega)) (by repeat (first | exact Take.nil | apply Take.one (by repeat (first | exact Pick.here | apply Pick.there | apply Pick.far)) | apply Take.seg (by repeat (first | exact PickS.last | exact PickS.one | exact PickS.here | exact PickS.nil | apply PickS.there | apply PickS.far)) | exact Take.last (by repeat (first | exact PickS.last | exact PickS.one | exact PickS.here | exact PickS.nil | apply PickS.there | apply PickS.far)))) (fun v Y hY => ?_))
    obtain ⟨rfl, hzz⟩ := hY
    rw [hzz, show ([(dig (n + 1) 8 ++ dig ps.flatten.length 4), ps.flatten] : List (List UInt8)).flatten = (dig (n + 1) 8 ++ dig ps.flatten.length 4) ++ ps.flatten from by simp]
    simp only [List.cons_append, List.nil_append, List.append_assoc]
    skip
    refine TL.cons rfl (T1.allocN 32 zr_63 rfl (fun b10 => ?_))
    have hrec : ([(dig (n + 1) 8 ++ dig ps.flatten.length 4), (sha T256 ((dig (n + 1) 8 ++ dig ps.flatten.length 4) ++ ps.flatten)), ps.flatten] : List (List UInt8)).flatten = (recB (n + 1) ps.flatten) := by unfold recB; simp
    have hatl : ((n + 1) % 2 * r) + (recB (n + 1) ps.flatten).length ≤ a.length := by rw [recB_len]; rcases (show (n + 1) % 2 = 0 ∨ (n + 1) % 2 = 1 by omega) with e | e <;> rw [e] <;> omega
    refine TL.cons rfl (T1.storeN (vs := (sha T256 ((dig (n + 1) 8 ++ dig ps.flatten.length 4) ++ ps.flatten)).map byteV) rfl (by rw [show (dig (n + 1) 8 ++ dig ps.flatten.length 4) ++ ps.flatten = (dig (n + 1) 8 ++ dig ps.flatten.length 4) ++ ps.flatten from rfl]; first | rfl | (simp only [List.append_assoc]; rfl)) sz_63 (one_bytes _) (by repeat (first | exact Sub.one | apply Sub.there | apply Sub.far)) (by rw [List.length_map, sha_len]; rfl) (by rw [List.length_map, sha_len]) ?_)
    refine TL.nil ?_
    refine T.seq ?_
    refine T.seq ?_
    refine T.drawK (fun L_ => Find L_ ⟨bc, 0, [.int .u64 (n : Nat), s0, .pointer (some ⟨bd, 0, none⟩)], 3⟩ ∧ Find L_ ⟨b8, 0, [.int .u64 ((n + 1 : Nat) : Int), .slice aa ps.flatten.length ac], 2⟩) mixed ⟨(by repeat (first | exact Find.here | assumption | apply Find.there | apply Find.far)), (by repeat (first | exact Find.here | assumption | apply Find.there | apply Find.far))⟩ ?_
    refine TK.take 0 rfl (by decide +kernel) (by decide +kernel) (by decide +kernel) rfl (fun _ _ _ h => h) (fun L_ ⟨k1_, k2_⟩ => V1.move' (by (conv => lhs; whnf) <;> rfl)) ?_
    refine TK.take 1 rfl (by decide +kernel) (by decide +kernel) (by decide +kernel) rfl (fun _ _ _ h => h) (fun L_ ⟨k1_, k2_⟩ => V1.nilCheck rfl) ?_
    refine TK.take 2 rfl (by decide +kernel) (by decide +kernel) (by decide +kernel) rfl (fun _ _ _ h => h) (fun L_ ⟨k1_, k2_⟩ => V1.fieldAddr fl_57_1 rfl) ?_
    refine TK.take 3 rfl (by decide +kernel) (by decide +kernel) (by decide +kernel) rfl (fun _ _ _ h => h) (fun L_ ⟨k1_, k2_⟩ => V1.load1 one_25 rfl (.own (cells := [.int .u64 (n : Nat), s0, .pointer (some ⟨bd, 0, none⟩)]) (by repeat (first | exact Find.here | assumption | apply Find.there | apply Find.far)) (by rfl))) ?_
    refine TK.take 4 rfl (by decide +kernel) (by decide +kernel) (by decide +kernel) rfl (fun _ _ _ h => h) (fun L_ ⟨k1_, k2_⟩ => V1.fieldAddr fl_55_0 rfl) ?_
    refine TK.take 5 rfl (by decide +kernel) (by decide +kernel) (by decide +kernel) rfl (fun _ _ _ h => h) (fun L_ ⟨k1_, k2_⟩ => V1.load1 one_32 rfl (.own (cells := [.int .u64 ((n + 1 : Nat) : Int), .slice aa ps.flatten.length ac]) (by repeat (first | exact Find.here | assumption | apply Find.there | apply Find.far)) (by rfl))) ?_
    refine TK.take 6 rfl (by decide +kernel) (by decide +kernel) (by decide +kernel) rfl (fun _ _ _ h => h) (fun L_ ⟨k1_, k2_⟩ => V1.rem (c := (((n + 1) % 2 : Nat) : Int)) rfl rfl (by decide) ((Int.ofNat_tmod _ 2).symm)) ?_
    refine TK.take 7 rfl (by decide +kernel) (by decide +kernel) (by decide +kernel) rfl (fun _ _ _ h => h) (fun L_ ⟨k1_, k2_⟩ => V1.conv (c := (((n + 1) % 2 : Nat) : Int)) ty_32 ty_3 rfl (wrap_i64 _ (by omega) (by omega))) ?_
    refine TK.take 8 rfl (by decide +kernel) (by decide +kernel) (by decide +kernel) rfl (fun _ _ _ h => h) (fun L_ ⟨k1_, k2_⟩ => V1.move' (by (conv => lhs; whnf) <;> rfl)) ?_
    refine TK.take 9 rfl (by decide +kernel) (by decide +kernel) (by decide +kernel) rfl (fun _ _ _ h => h) (fun L_ ⟨k1_, k2_⟩ => V1.nilCheck rfl) ?_
    refine TK.take 10 rfl (by decide +kernel) (by decide +kernel) (by decide +kernel) rfl (fun _ _ _ h => h) (fun L_ ⟨k1_, k2_⟩ => V1.fieldAddr fl_57_1 rfl) ?_
    refine TK.take 11 rfl (by decide +kernel) (by decide +kernel) (by decide +kernel) rfl (fun _ _ _ h => h) (fun L_ ⟨k1_, k2_⟩ => V1.load1 one_25 rfl (.own (cells := [.int .u64 (n : Nat), s0, .pointer (some ⟨bd, 0, none⟩)]) (by repeat (first | exact Find.here | assumption | apply Find.there | apply Find.far)) (by rfl))) ?_
    refine TK.take 14 rfl (by decide +kernel) (by decide +kernel) (by decide +kernel) rfl (fun _ _ _ h => h) (fun L_ ⟨k1_, k2_⟩ => V1.move' (by (conv => lhs; whnf) <;> rfl)) ?_
    refine TK.take 15 rfl (by decide +kernel) (by decide +kernel) (by decide +kernel) rfl (fun _ _ _ h => h) (fun L_ ⟨k1_, k2_⟩ => V1.sliceA ty_63 sz_5 rfl rfl rfl (by decide) (by decide) (by decide)) ?_
    refine TK.take 16 rfl (by decide +kernel) (by decide +kernel) (by decide +kernel) rfl (fun _ _ _ h => h) (fun L_ ⟨k1_, k2_⟩ => V1.move' (by (conv => lhs; whnf) <;> rfl)) ?_
    refine TK.two 12 17 (by decide +kernel) rfl rfl rfl rfl (T1.callX (X := [(⟨bd, 0, [.slice (some ⟨ba, 0, none⟩) a.length a.length, .int .i64 pw], 2⟩ : Blk)]) has_20 rfl (room_any _ bd ba a.length pw hal) (by repeat (first | exact Take.nil | apply Take.one (by repeat (first | exact Pick.here | apply Pick.there | apply Pick.far)) | apply Take.seg (by repeat (first | exact PickS.last | exact PickS.one | exact PickS.here | exact PickS.nil | apply PickS.there | apply PickS.far)) | exact Take.last (by repeat (first | exact PickS.last | exact PickS.one | exact PickS.here | exact PickS.nil | apply PickS.there | apply PickS.far)))) (fun v Y hY => ?_)) (T1.buildSl1 (os := [.tmp 68, .tmp 69, .tmp 70]) (vs := [.slice fa (dig (n + 1) 8 ++ dig ps.flatten.length 4).length fc, .slice (some ⟨b10, 0, none⟩) 32 32, .slice aa ps.flatten.length ac]) ty_22 sz_33 zr_33 (by decide) rfl (.cons rfl (.cons rfl (.cons rfl .nil))) rfl (ones rfl) (fun b71 => ?_))
    ·
      obtain ⟨rfl, rfl⟩ := hY
      simp only [List.cons_append, List.nil_append]
      rw [show a.length / 2 = r from by omega]
      refine ⟨⟨(by repeat (first | exact Find.here | assumption | apply Find.there | apply Find.far)), (by repeat (first | exact Find.here | assumption | apply Find.there | apply Find.far))⟩, ?_⟩
      refine TK.take 13 rfl (by decide +kernel) (by decide +kernel) (by decide +kernel) rfl (fun _ _ _ h => h) (fun L_ ⟨k1_, k2_⟩ => V1.mul (c := ((((n + 1) % 2 * r) : Nat) : Int)) rfl rfl (by rcases (show (n + 1) % 2 = 0 ∨ (n + 1) % 2 = 1 by omega) with e | e <;> (rw [e, wrap_i64 _ (by omega) (by omega)]; omega))) ?_
      refine TK.one 17 (by decide +kernel) rfl rfl (T1.buildSl1 (os := [.tmp 68, .tmp 69, .tmp 70]) (vs := [.slice fa (dig (n + 1) 8 ++ dig ps.flatten.length 4).length fc, .slice (some ⟨b10, 0, none⟩) 32 32, .slice aa ps.flatten.length ac]) ty_22 sz_33 zr_33 (by decide) rfl (.cons rfl (.cons rfl (.cons rfl .nil))) rfl (ones rfl) (fun b71 => ?_))
      refine ⟨⟨(by repeat (first | exact Find.here | assumption | apply Find.there | apply Find.far)), (by repeat (first | exact Find.here | assumption | apply Find.there | apply Find.far))⟩, ?_⟩
      refine TK.one 18 (by decide +kernel) rfl rfl (T1.callX (X := (⟨bd, 0, [.slice (some ⟨ba, 0, none⟩) a.length a.length, .int .i64 pw], 2⟩ : Blk) :: (⟨ba, 0, List.map byteV a, a.length⟩ : Blk) :: (⟨b71, 0, [.slice fa (dig (n + 1) 8 ++ dig ps.flatten.length 4).length fc, .slice (some ⟨b10, 0, none⟩) 32 32, .slice aa ps.flatten.length ac], 3⟩ :: (Ls1 ++ (⟨b10, 0, (sha T256 ((dig (n + 1) 8 ++ dig ps.flatten.length 4) ++ ps.flatten)).map byteV, 32⟩ :: Ls)) : List Blk)) has_23 rfl (write_any _ bd ba ((n + 1) % 2 * r) _ a pw [(dig (n + 1) 8 ++ dig ps.flatten.length 4), (sha T256 ((dig (n + 1) 8 ++ dig ps.flatten.length 4) ++ ps.flatten)), ps.flatten] (⟨b71, 0, [.slice fa (dig (n + 1) 8 ++ dig ps.flatten.length 4).length fc, .slice (some ⟨b10, 0, none⟩) 32 32, .slice aa ps.flatten.length ac], 3⟩ :: (Ls1 ++ (⟨b10, 0, (sha T256 ((dig (n + 1) 8 ++ dig ps.flatten.length 4) ++ ps.flatten)).map byteV, 32⟩ :: Ls)) : List Blk) (PartsR.ones (svs := [.slice fa (dig (n + 1) 8 ++ dig ps.flatten.length 4).length fc, .slice (some ⟨b10, 0, none⟩) 32 32, .slice aa ps.flatten.length ac]) (size := 3) (by simp) rfl (three_parts (PartR.own hs1 (fun _ h => by simp [h])) (part32 (b := b10) (n := 32) (c := 32) (size := 32) (by simp) (sha_len _ _)) (PartR.own hsl (fun _ h => by simp [h])))) (show 3 < 9223372036854775807 by decide) (by rw [hrec]; exact hatl) hal hpw hpw2) (by repeat (first | exact Take.nil | apply Take.one (by repeat (first | exact Pick.here | apply Pick.there | apply Pick.far)) | apply Take.seg (by repeat (first | exact PickS.last | exact PickS.one | exact PickS.here | exact PickS.nil | apply PickS.there | apply PickS.far)) | exact Take.last (by repeat (first | exact PickS.last | exact PickS.one | exact PickS.here | exact PickS.nil | apply PickS.there | apply PickS.far)))) (fun v Y hY => ?_))
      rw [hrec] at hY
      obtain ⟨rfl, hzz⟩ := hY
      rw [hzz]
      simp only [List.cons_append, List.nil_append, List.append_assoc]
      rcases Decidable.em ((wN pw (recB (n + 1) ps.flatten).length) < (recB (n + 1) ps.flatten).length) with hw | hw
      ·
        rw [if_pos hw]
        refine ⟨⟨(by repeat (first | exact Find.here | assumption | apply Find.there | apply Find.far)), (by repeat (first | exact Find.here | assumption | apply Find.there | apply Find.far))⟩, ?_⟩
        refine TK.take 19 rfl (by decide +kernel) (by decide +kernel) (by decide +kernel) rfl (fun _ _ _ h => h) (fun L_ ⟨k1_, k2_⟩ => V1.assign' (by (conv => lhs; whnf) <;> rfl)) ?_
        refine TD.done (by decide +kernel) ?_
        refine T.seq ?_
        refine T.live (l := [(0, _), (8, _), (11, _)]) (.cons (by (conv => lhs; whnf) <;> rfl) (.cons (by (conv => lhs; whnf) <;> rfl) (.cons (by (conv => lhs; whnf) <;> rfl) .nil))) (fun e_ => ?_)
        refine T.region ?_
        refine TL.cons rfl (V1.t (V1.move' (by (conv => lhs; whnf) <;> rfl)) ?_)
        refine TL.cons rfl (V1.t (V1.neI (r := true) rfl rfl (by decide)) ?_)
        refine TL.nil ?_
        refine T.cond_t rfl ?_
        refine T.seq ?_
        refine T.region ?_
        refine TL.cons rfl (V1.t (V1.move' (by (conv => lhs; whnf) <;> rfl)) ?_)
        refine TL.cons rfl (V1.t (V1.assign' (by (conv => lhs; whnf) <;> rfl)) ?_)
        refine TL.nil ?_
        refine T.ret ?_
        exact ⟨_, ⟨bc, 0, [.int .u64 (n : Nat), s0, .pointer (some ⟨bd, 0, none⟩)], 3⟩ :: (Lv ++ ((⟨bd, 0, [.slice (some ⟨ba, 0, none⟩) a.length a.length, .int .i64 (pwF pw (wN pw (recB (n + 1) ps.flatten).length))], 2⟩ : Blk) :: (⟨ba, 0, List.map byteV (splice a ((n + 1) % 2 * r) ((recB (n + 1) ps.flatten).take (wN pw (recB (n + 1) ps.flatten).length))), a.length⟩ : Blk) :: (Ps ++ G))), _, .cons (.tmp (by (conv => lhs; whnf) <;> rfl)) .nil, (by repeat (first | exact Take.nil | apply Take.one (by repeat (first | exact Pick.here | apply Pick.there | apply Pick.far)) | apply Take.seg (by repeat (first | exact PickS.last | exact PickS.one | exact PickS.here | exact PickS.nil | apply PickS.there | apply PickS.far)) | exact Take.last (by repeat (first | exact PickS.last | exact PickS.one | exact PickS.here | exact PickS.nil | apply PickS.there | apply PickS.far)))), (⟨bc, 0, [.int .u64 (n : Nat), s0, .pointer (some ⟨bd, 0, none⟩)], 3⟩ :: Lv) ++ ((⟨bd, 0, [.slice (some ⟨ba, 0, none⟩) a.length a.length, .int .i64 (pwF pw (wN pw (recB (n + 1) ps.flatten).length))], 2⟩ : Blk) :: (⟨ba, 0, List.map byteV (splice a ((n + 1) % 2 * r) ((recB (n + 1) ps.flatten).take (wN pw (recB (n + 1) ps.flatten).length))), a.length⟩ : Blk) :: Ps), by simp, .inr (.inl ⟨by omega, hw, rfl, rfl⟩)⟩
      ·
        rw [if_neg hw]
        have hwe : (wN pw (recB (n + 1) ps.flatten).length) = (recB (n + 1) ps.flatten).length := by have := wN_le pw (recB (n + 1) ps.flatten).length; omega
        refine ⟨⟨(by repeat (first | exact Find.here | assumption | apply Find.there | apply Find.far)), (by repeat (first | exact Find.here | assumption | apply Find.there | apply Find.far))⟩, ?_⟩
        refine TK.take 19 rfl (by decide +kernel) (by decide +kernel) (by decide +kernel) rfl (fun _ _ _ h => h) (fun L_ ⟨k1_, k2_⟩ => V1.assign' (by (conv => lhs; whnf) <;> rfl)) ?_
        refine TD.done (by decide +kernel) ?_
        refine T.seq ?_
        refine T.live (l := [(0, _), (8, _), (11, _)]) (.cons (by (conv => lhs; whnf) <;> rfl) (.cons (by (conv => lhs; whnf) <;> rfl) (.cons (by (conv => lhs; whnf) <;> rfl) .nil))) (fun e_ => ?_)
        refine T.region ?_
        refine TL.cons rfl (V1.t (V1.move' (by (conv => lhs; whnf) <;> rfl)) ?_)
        refine TL.cons rfl (V1.t (V1.neI (r := false) rfl rfl (by decide)) ?_)
        refine TL.nil ?_
        refine T.cond_f rfl ?_
        refine T.skip ?_
        refine T.seq ?_
        refine T.region ?_
        refine TL.cons rfl (V1.t (V1.move' (by (conv => lhs; whnf) <;> rfl)) ?_)
        refine TL.cons rfl (V1.t (V1.loadN (vs := [.int .u64 ((n + 1 : Nat) : Int), .slice aa ps.flatten.length ac]) one_55 sz_55 rfl (RdN.whole (by repeat (first | exact Find.here | assumption | apply Find.there | apply Find.far))) (by rfl)) ?_)
        refine TL.cons rfl (V1.t (V1.nilCheck rfl) ?_)
        refine TL.cons rfl (V1.t (V1.fieldAddr fl_57_0 rfl) ?_)
        refine TL.cons rfl (T1.storeM (o := 0) (cells := [.int .u64 (n : Nat), s0, .pointer (some ⟨bd, 0, none⟩)]) (vs := [.int .u64 ((n + 1 : Nat) : Int), .slice aa ps.flatten.length ac]) rfl rfl sz_55 (ones rfl) (by repeat (first | exact Sub.one | apply Sub.there | apply Sub.far)) (Nat.le_refl _) (by simp only [List.length_cons, List.length_nil]; omega) rfl ?_)
        rw [show putN [.int .u64 (n : Nat), s0, .pointer (some ⟨bd, 0, none⟩)] (0 - 0) [.int .u64 ((n + 1 : Nat) : Int), .slice aa ps.flatten.length ac] = [.int .u64 ((n + 1 : Nat) : Int), .slice aa ps.flatten.length ac, .pointer (some ⟨bd, 0, none⟩)] from rfl]
        refine TL.nil ?_
        refine T.seq ?_
        refine T.region ?_
        refine TL.cons rfl (V1.t (V1.assign' (by (conv => lhs; whnf) <;> rfl)) ?_)
        refine TL.nil ?_
        refine T.ret ?_
        exact ⟨_, ⟨bc, 0, [.int .u64 ((n + 1 : Nat) : Int), .slice aa ps.flatten.length ac, .pointer (some ⟨bd, 0, none⟩)], 3⟩ :: (Ls ++ ((⟨bd, 0, [.slice (some ⟨ba, 0, none⟩) a.length a.length, .int .i64 (pwF pw (wN pw (recB (n + 1) ps.flatten).length))], 2⟩ : Blk) :: (⟨ba, 0, List.map byteV (splice a ((n + 1) % 2 * r) ((recB (n + 1) ps.flatten).take (wN pw (recB (n + 1) ps.flatten).length))), a.length⟩ : Blk) :: (Ps ++ G))), _, .cons (.tmp (by (conv => lhs; whnf) <;> rfl)) .nil, (by repeat (first | exact Take.nil | apply Take.one (by repeat (first | exact Pick.here | apply Pick.there | apply Pick.far)) | apply Take.seg (by repeat (first | exact PickS.last | exact PickS.one | exact PickS.here | exact PickS.nil | apply PickS.there | apply PickS.far)) | exact Take.last (by repeat (first | exact PickS.last | exact PickS.one | exact PickS.here | exact PickS.nil | apply PickS.there | apply PickS.far)))), (⟨bc, 0, [.int .u64 ((n + 1 : Nat) : Int), .slice aa ps.flatten.length ac, .pointer (some ⟨bd, 0, none⟩)], 3⟩ :: Ls) ++ ((⟨bd, 0, [.slice (some ⟨ba, 0, none⟩) a.length a.length, .int .i64 (pwF pw (wN pw (recB (n + 1) ps.flatten).length))], 2⟩ : Blk) :: (⟨ba, 0, List.map byteV (splice a ((n + 1) % 2 * r) ((recB (n + 1) ps.flatten).take (wN pw (recB (n + 1) ps.flatten).length))), a.length⟩ : Blk) :: Ps), by simp, .inr (.inr ⟨by omega, hwe, rfl, ⟨bc, 0, [.int .u64 ((n + 1 : Nat) : Int), .slice aa ps.flatten.length ac, .pointer (some ⟨bd, 0, none⟩)], 3⟩ :: Ls, ⟨_, Ls, rfl, hsl⟩, rfl⟩)⟩
    ·
      refine ⟨⟨(by repeat (first | exact Find.here | assumption | apply Find.there | apply Find.far)), (by repeat (first | exact Find.here | assumption | apply Find.there | apply Find.far))⟩, ?_⟩
      refine TK.one 12 (by decide +kernel) rfl rfl (T1.callX (X := [(⟨bd, 0, [.slice (some ⟨ba, 0, none⟩) a.length a.length, .int .i64 pw], 2⟩ : Blk)]) has_20 rfl (room_any _ bd ba a.length pw hal) (by repeat (first | exact Take.nil | apply Take.one (by repeat (first | exact Pick.here | apply Pick.there | apply Pick.far)) | apply Take.seg (by repeat (first | exact PickS.last | exact PickS.one | exact PickS.here | exact PickS.nil | apply PickS.there | apply PickS.far)) | exact Take.last (by repeat (first | exact PickS.last | exact PickS.one | exact PickS.here | exact PickS.nil | apply PickS.there | apply PickS.far)))) (fun v Y hY => ?_))
      obtain ⟨rfl, rfl⟩ := hY
      simp only [List.cons_append, List.nil_append]
      rw [show a.length / 2 = r from by omega]
      refine ⟨⟨(by repeat (first | exact Find.here | assumption | apply Find.there | apply Find.far)), (by repeat (first | exact Find.here | assumption | apply Find.there | apply Find.far))⟩, ?_⟩
      refine TK.take 13 rfl (by decide +kernel) (by decide +kernel) (by decide +kernel) rfl (fun _ _ _ h => h) (fun L_ ⟨k1_, k2_⟩ => V1.mul (c := ((((n + 1) % 2 * r) : Nat) : Int)) rfl rfl (by rcases (show (n + 1) % 2 = 0 ∨ (n + 1) % 2 = 1 by omega) with e | e <;> (rw [e, wrap_i64 _ (by omega) (by omega)]; omega))) ?_
      refine TK.one 18 (by decide +kernel) rfl rfl (T1.callX (X := (⟨bd, 0, [.slice (some ⟨ba, 0, none⟩) a.length a.length, .int .i64 pw], 2⟩ : Blk) :: (⟨ba, 0, List.map byteV a, a.length⟩ : Blk) :: (⟨b71, 0, [.slice fa (dig (n + 1) 8 ++ dig ps.flatten.length 4).length fc, .slice (some ⟨b10, 0, none⟩) 32 32, .slice aa ps.flatten.length ac], 3⟩ :: (Ls1 ++ (⟨b10, 0, (sha T256 ((dig (n + 1) 8 ++ dig ps.flatten.length 4) ++ ps.flatten)).map byteV, 32⟩ :: Ls)) : List Blk)) has_23 rfl (write_any _ bd ba ((n + 1) % 2 * r) _ a pw [(dig (n + 1) 8 ++ dig ps.flatten.length 4), (sha T256 ((dig (n + 1) 8 ++ dig ps.flatten.length 4) ++ ps.flatten)), ps.flatten] (⟨b71, 0, [.slice fa (dig (n + 1) 8 ++ dig ps.flatten.length 4).length fc, .slice (some ⟨b10, 0, none⟩) 32 32, .slice aa ps.flatten.length ac], 3⟩ :: (Ls1 ++ (⟨b10, 0, (sha T256 ((dig (n + 1) 8 ++ dig ps.flatten.length 4) ++ ps.flatten)).map byteV, 32⟩ :: Ls)) : List Blk) (PartsR.ones (svs := [.slice fa (dig (n + 1) 8 ++ dig ps.flatten.length 4).length fc, .slice (some ⟨b10, 0, none⟩) 32 32, .slice aa ps.flatten.length ac]) (size := 3) (by simp) rfl (three_parts (PartR.own hs1 (fun _ h => by simp [h])) (part32 (b := b10) (n := 32) (c := 32) (size := 32) (by simp) (sha_len _ _)) (PartR.own hsl (fun _ h => by simp [h])))) (show 3 < 9223372036854775807 by decide) (by rw [hrec]; exact hatl) hal hpw hpw2) (by repeat (first | exact Take.nil | apply Take.one (by repeat (first | exact Pick.here | apply Pick.there | apply Pick.far)) | apply Take.seg (by repeat (first | exact PickS.last | exact PickS.one | exact PickS.here | exact PickS.nil | apply PickS.there | apply PickS.far)) | exact Take.last (by repeat (first | exact PickS.last | exact PickS.one | exact PickS.here | exact PickS.nil | apply PickS.there | apply PickS.far)))) (fun v Y hY => ?_))
      rw [hrec] at hY
      obtain ⟨rfl, hzz⟩ := hY
      rw [hzz]
      simp only [List.cons_append, List.nil_append, List.append_assoc]
      rcases Decidable.em ((wN pw (recB (n + 1) ps.flatten).length) < (recB (n + 1) ps.flatten).length) with hw | hw
      ·
        rw [if_pos hw]
        refine ⟨⟨(by repeat (first | exact Find.here | assumption | apply Find.there | apply Find.far)), (by repeat (first | exact Find.here | assumption | apply Find.there | apply Find.far))⟩, ?_⟩
        refine TK.take 19 rfl (by decide +kernel) (by decide +kernel) (by decide +kernel) rfl (fun _ _ _ h => h) (fun L_ ⟨k1_, k2_⟩ => V1.assign' (by (conv => lhs; whnf) <;> rfl)) ?_
        refine TD.done (by decide +kernel) ?_
        refine T.seq ?_
        refine T.live (l := [(0, _), (8, _), (11, _)]) (.cons (by (conv => lhs; whnf) <;> rfl) (.cons (by (conv => lhs; whnf) <;> rfl) (.cons (by (conv => lhs; whnf) <;> rfl) .nil))) (fun e_ => ?_)
        refine T.region ?_
        refine TL.cons rfl (V1.t (V1.move' (by (conv => lhs; whnf) <;> rfl)) ?_)
        refine TL.cons rfl (V1.t (V1.neI (r := true) rfl rfl (by decide)) ?_)
        refine TL.nil ?_
        refine T.cond_t rfl ?_
        refine T.seq ?_
        refine T.region ?_
        refine TL.cons rfl (V1.t (V1.move' (by (conv => lhs; whnf) <;> rfl)) ?_)
        refine TL.cons rfl (V1.t (V1.assign' (by (conv => lhs; whnf) <;> rfl)) ?_)
        refine TL.nil ?_
        refine T.ret ?_
        exact ⟨_, ⟨bc, 0, [.int .u64 (n : Nat), s0, .pointer (some ⟨bd, 0, none⟩)], 3⟩ :: (Lv ++ ((⟨bd, 0, [.slice (some ⟨ba, 0, none⟩) a.length a.length, .int .i64 (pwF pw (wN pw (recB (n + 1) ps.flatten).length))], 2⟩ : Blk) :: (⟨ba, 0, List.map byteV (splice a ((n + 1) % 2 * r) ((recB (n + 1) ps.flatten).take (wN pw (recB (n + 1) ps.flatten).length))), a.length⟩ : Blk) :: (Ps ++ G))), _, .cons (.tmp (by (conv => lhs; whnf) <;> rfl)) .nil, (by repeat (first | exact Take.nil | apply Take.one (by repeat (first | exact Pick.here | apply Pick.there | apply Pick.far)) | apply Take.seg (by repeat (first | exact PickS.last | exact PickS.one | exact PickS.here | exact PickS.nil | apply PickS.there | apply PickS.far)) | exact Take.last (by repeat (first | exact PickS.last | exact PickS.one | exact PickS.here | exact PickS.nil | apply PickS.there | apply PickS.far)))), (⟨bc, 0, [.int .u64 (n : Nat), s0, .pointer (some ⟨bd, 0, none⟩)], 3⟩ :: Lv) ++ ((⟨bd, 0, [.slice (some ⟨ba, 0, none⟩) a.length a.length, .int .i64 (pwF pw (wN pw (recB (n + 1) ps.flatten).length))], 2⟩ : Blk) :: (⟨ba, 0, List.map byteV (splice a ((n + 1) % 2 * r) ((recB (n + 1) ps.flatten).take (wN pw (recB (n + 1) ps.flatten).length))), a.length⟩ : Blk) :: Ps), by simp, .inr (.inl ⟨by omega, hw, rfl, rfl⟩)⟩
      ·
        rw [if_neg hw]
        have hwe : (wN pw (recB (n + 1) ps.flatten).length) = (recB (n + 1) ps.flatten).length := by have := wN_le pw (recB (n + 1) ps.flatten).length; omega
        refine ⟨⟨(by repeat (first | exact Find.here | assumption | apply Find.there | apply Find.far)), (by repeat (first | exact Find.here | assumption | apply Find.there | apply Find.far))⟩, ?_⟩
        refine TK.take 19 rfl (by decide +kernel) (by decide +kernel) (by decide +kernel) rfl (fun _ _ _ h => h) (fun L_ ⟨k1_, k2_⟩ => V1.assign' (by (conv => lhs; whnf) <;> rfl)) ?_
        refine TD.done (by decide +kernel) ?_
        refine T.seq ?_
        refine T.live (l := [(0, _), (8, _), (11, _)]) (.cons (by (conv => lhs; whnf) <;> rfl) (.cons (by (conv => lhs; whnf) <;> rfl) (.cons (by (conv => lhs; whnf) <;> rfl) .nil))) (fun e_ => ?_)
        refine T.region ?_
        refine TL.cons rfl (V1.t (V1.move' (by (conv => lhs; whnf) <;> rfl)) ?_)
        refine TL.cons rfl (V1.t (V1.neI (r := false) rfl rfl (by decide)) ?_)
        refine TL.nil ?_
        refine T.cond_f rfl ?_
        refine T.skip ?_
        refine T.seq ?_
        refine T.region ?_
        refine TL.cons rfl (V1.t (V1.move' (by (conv => lhs; whnf) <;> rfl)) ?_)
        refine TL.cons rfl (V1.t (V1.loadN (vs := [.int .u64 ((n + 1 : Nat) : Int), .slice aa ps.flatten.length ac]) one_55 sz_55 rfl (RdN.whole (by repeat (first | exact Find.here | assumption | apply Find.there | apply Find.far))) (by rfl)) ?_)
        refine TL.cons rfl (V1.t (V1.nilCheck rfl) ?_)
        refine TL.cons rfl (V1.t (V1.fieldAddr fl_57_0 rfl) ?_)
        refine TL.cons rfl (T1.storeM (o := 0) (cells := [.int .u64 (n : Nat), s0, .pointer (some ⟨bd, 0, none⟩)]) (vs := [.int .u64 ((n + 1 : Nat) : Int), .slice aa ps.flatten.length ac]) rfl rfl sz_55 (ones rfl) (by repeat (first | exact Sub.one | apply Sub.there | apply Sub.far)) (Nat.le_refl _) (by simp only [List.length_cons, List.length_nil]; omega) rfl ?_)
        rw [show putN [.int .u64 (n : Nat), s0, .pointer (some ⟨bd, 0, none⟩)] (0 - 0) [.int .u64 ((n + 1 : Nat) : Int), .slice aa ps.flatten.length ac] = [.int .u64 ((n + 1 : Nat) : Int), .slice aa ps.flatten.length ac, .pointer (some ⟨bd, 0, none⟩)] from rfl]
        refine TL.nil ?_
        refine T.seq ?_
        refine T.region ?_
        refine TL.cons rfl (V1.t (V1.assign' (by (conv => lhs; whnf) <;> rfl)) ?_)
        refine TL.nil ?_
        refine T.ret ?_
        exact ⟨_, ⟨bc, 0, [.int .u64 ((n + 1 : Nat) : Int), .slice aa ps.flatten.length ac, .pointer (some ⟨bd, 0, none⟩)], 3⟩ :: (Ls ++ ((⟨bd, 0, [.slice (some ⟨ba, 0, none⟩) a.length a.length, .int .i64 (pwF pw (wN pw (recB (n + 1) ps.flatten).length))], 2⟩ : Blk) :: (⟨ba, 0, List.map byteV (splice a ((n + 1) % 2 * r) ((recB (n + 1) ps.flatten).take (wN pw (recB (n + 1) ps.flatten).length))), a.length⟩ : Blk) :: (Ps ++ G))), _, .cons (.tmp (by (conv => lhs; whnf) <;> rfl)) .nil, (by repeat (first | exact Take.nil | apply Take.one (by repeat (first | exact Pick.here | apply Pick.there | apply Pick.far)) | apply Take.seg (by repeat (first | exact PickS.last | exact PickS.one | exact PickS.here | exact PickS.nil | apply PickS.there | apply PickS.far)) | exact Take.last (by repeat (first | exact PickS.last | exact PickS.one | exact PickS.here | exact PickS.nil | apply PickS.there | apply PickS.far)))), (⟨bc, 0, [.int .u64 ((n + 1 : Nat) : Int), .slice aa ps.flatten.length ac, .pointer (some ⟨bd, 0, none⟩)], 3⟩ :: Ls) ++ ((⟨bd, 0, [.slice (some ⟨ba, 0, none⟩) a.length a.length, .int .i64 (pwF pw (wN pw (recB (n + 1) ps.flatten).length))], 2⟩ : Blk) :: (⟨ba, 0, List.map byteV (splice a ((n + 1) % 2 * r) ((recB (n + 1) ps.flatten).take (wN pw (recB (n + 1) ps.flatten).length))), a.length⟩ : Blk) :: Ps), by simp, .inr (.inr ⟨by omega, hwe, rfl, ⟨bc, 0, [.int .u64 ((n + 1 : Nat) : Int), .slice aa ps.flatten.length ac, .pointer (some ⟨bd, 0, none⟩)], 3⟩ :: Ls, ⟨_, Ls, rfl, hsl⟩, rfl⟩)⟩

end Go.Proofs.Ytmolpgnekcfimaa.S
