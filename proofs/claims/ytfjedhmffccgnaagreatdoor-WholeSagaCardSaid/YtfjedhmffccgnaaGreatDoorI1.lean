/- Signatures: a seed's halves, its public key, a sum as a number. -/
import Derived.Test.YtfjedhmffccgnaaGreatDoorK3
import Derived.Test.YtfjedhmffccgnaaGreatDoorS4
import Derived.Test.YtfjedhmffccgnaaGreatDoorOpsP
namespace Go.Proofs.YtfjedhmffccgnaaGreatDoor.S
set_option maxRecDepth 100000
set_option maxHeartbeats 1000000
open Go.RowKit
open Ed Sh
def seedA (s : List UInt8) : List UInt8 := clampL ((sha T512 s).take 32)
def seedP (s : List UInt8) : List UInt8 := (sha T512 s).drop 32
theorem seedA_len (s : List UInt8) : (seedA s).length = 32 := clampL_len' (by rw [List.length_take, sha_len]; rfl)
theorem seedP_len (s : List UInt8) : (seedP s).length = 32 := by unfold seedP; rw [List.length_drop, sha_len]
noncomputable def pubL (s : List UInt8) : List UInt8 := encP (Pt.smul (leN (seedA s)) Bs)
theorem pubL_len (s : List UInt8) : (pubL s).length = 32 := encP_len _
theorem pubL_eq (s : List UInt8) : pubL s = encP (Pt.smul (leN (seedA s)) Bs) := rfl
def redL (m : List UInt8) : Nat := leN (sha T512 m) % Lo
theorem redL_eq (m : List UInt8) : redL m = leN (sha T512 m) % Lo := rfl
theorem sha512_len (m : List UInt8) : (sha T512 m).length = 64 := sha_len _ _
theorem halves_fill (s : List UInt8) : (clampL ((sha T512 s).take 32)).map byteV ++ ((sha T512 s).drop 32).map byteV = (seedA s ++ seedP s).map byteV := by rw [List.map_append]; rfl
attribute [irreducible] seedA seedP pubL redL
theorem Sum512_v (w0 : World) (Ps : List Blk) {v : Value} (ps : List (List UInt8)) (hp : PartsR w0 Ps v ps) (hlen : ∀ p ∈ ps, p.length ≤ 200000000000000) (hpn : ps.length < 9223372036854775807) (hfl : ps.flatten.length < 4611686018427387904) : FnV P 54 [v] w0 Ps (fun v => v = .agg ((sha T512 ps.flatten).map byteV).toArray) :=
 FnX.v fun Qs hi => Sum512_any w0 v ps Qs (hp.more hi) hlen hpn hfl
theorem half_A (s : List UInt8) : (((seedA s ++ seedP s).map byteV).drop 0).take 32 = (seedA s).map byteV := by
 rw [List.drop_zero, ← List.map_take, List.take_left' (seedA_len s)]
theorem half_P (s : List UInt8) : (((seedA s ++ seedP s).map byteV).drop 32).take 32 = (seedP s).map byteV := by
 rw [← List.map_drop, List.drop_left' (seedA_len s), ← List.map_take, List.take_of_length_le (by rw [seedP_len]; exact Nat.le_refl _)]
theorem half_len (s : List UInt8) : ((seedA s ++ seedP s).map byteV).length = 64 := by rw [List.length_map, List.length_append, seedA_len, seedP_len]
theorem parts1 {w0 : World} {s : List UInt8} (hs : s.length = 32) (b5 b1 : Nat) : PartsR w0 [⟨b5, 0, [.slice (some ⟨b1, 0, none⟩) 32 32], 1⟩, ⟨b1, 0, s.map byteV, 32⟩] (.slice (some ⟨b5, 0, none⟩) 1 1) [s] :=
 PartsR.ones (size := 1) (List.mem_cons_self ..) rfl (one_part (RowR.part hs (RowR.own (List.mem_cons_of_mem _ (List.mem_cons_self ..)) (by rw [List.length_map, hs]))))
theorem halves_any (w0 : World) (s : List UInt8) (hs : s.length = 32) : FnV P 25 [.agg ((s).map byteV).toArray] w0 [] (fun v => v = .agg ((seedA s ++ seedP s).map byteV).toArray) := by
 refine FnV.of 15 [.cell 2 88] Go.Proofs.Tryz.func25 rfl rfl rfl rfl (fun G hG => ?_)
 refine zs ?_
 refine zc (T1.boxN (vs := (s).map byteV) 32 rfl (by rw [List.length_map, hs]) (fun b1 => ?_))
 refine zc (T1.allocN 64 zr_88 rfl (fun b2 => zs ?_))
 refine z0 (V1.sliceA ty_36 sz_5 rfl rfl rfl ze ze ze) ?_
 refine zc (T1.buildSl1 (os := [.tmp 4]) (vs := [.slice (some ⟨b1, 0, none⟩) 32 32]) ty_115 sz_44 zr_44 ze rfl (.cons z_C .nil) rfl (ones rfl) (fun b5 => ?_))
 refine zc (T1.callV has_54 rfl rfl (Sum512_v w0 [⟨b5, 0, [.slice (some ⟨b1, 0, none⟩) 32 32], 1⟩, ⟨b1, 0, s.map byteV, 32⟩] [s] (parts1 hs b5 b1) (one_len (by rw [hs]; decide)) (Nat.lt_of_le_of_lt (Nat.le_of_eq rfl) (by decide : 1 < 9223372036854775807)) (by simp [hs])) z_D (fun v_ hv => ?_))
 rw [show [s].flatten = s from by simp] at hv
 obtain rfl := hv
 refine zc (T1.allocN 64 zr_74 rfl (fun b3 => ?_))
 refine zc (T1.storeN rfl rfl sz_74 (one_bytes _) z_H (by rw [List.length_map, sha512_len]; rfl) (by rw [List.length_map, sha512_len]) ?_)
 refine TL.nil ?_
 refine T.seq (T.drawM (FL [MV (.slice (some ⟨b3, 0, none⟩) 32 64), zp b3 0, MV (.agg (((sha T512 s).take 32).map byteV).toArray), MV (.agg ((clampL ((sha T512 s).take 32)).map byteV).toArray), MV (.slice (some ⟨b3, 32, none⟩) 32 32), zp b3 32, MV (.agg (((sha T512 s).drop 32).map byteV).toArray), MV (.agg ((seedA s ++ seedP s).map byteV).toArray), MT]) 8 mixed z_F z_F zM ?_ ?_)
 ·
  refine zm (zS 3 zE) (V1.sliceA ty_74 sz_5 rfl rfl rfl ze ze ze) ?_
  refine zm (zP 0 7 rfl zE) (V1.s2ap ty_36 rfl ze) ?_
  refine zm (zP 1 8 rfl zE) (V1.loadN (vs := ((sha T512 s).take 32).map byteV) one_36 sz_36 rfl (show RdN _ _ ⟨b3, 0 + 0, none⟩ _ from by rw [show ((sha T512 s).take 32).map byteV = (((sha T512 s).map byteV).drop 0).take 32 from by rw [List.drop_zero, ← List.map_take]]; exact RdN.sub z_A) (by rw [List.length_map, List.length_take, sha512_len]; rfl)) ?_
  refine zt (zP 2 9 rfl zE) (fun _ _ => T1.call0 has_55 rfl (fun w hs => Clamp_any ((sha T512 s).take 32) (by rw [List.length_take, sha512_len]; rfl) w) (fun _ hv => ⟨_, [], rfl, rfl, hv⟩)) ?_
  refine zm (zS 3 zE) (V1.sliceA ty_74 sz_5 rfl rfl rfl ze ze ze) ?_
  refine zm (zP 4 11 rfl zE) (V1.s2ap ty_36 rfl ze) ?_
  refine zm (zP 5 12 rfl zE) (V1.loadN (vs := ((sha T512 s).drop 32).map byteV) one_36 sz_36 rfl (show RdN _ _ ⟨b3, 0 + 32, none⟩ _ from by rw [show ((sha T512 s).drop 32).map byteV = (((sha T512 s).map byteV).drop 32).take 32 from by rw [← List.map_drop, ← List.map_take, List.take_of_length_le (by rw [List.length_drop, sha512_len]; decide)]]; exact RdN.sub z_A) (by rw [List.length_map, List.length_drop, sha512_len])) ?_
  refine zm (zP 3 10 rfl (zP 6 13 rfl zE)) (V1.buildF (out := (seedA s ++ seedP s).map byteV) pl_88 zr_88 (.many (l := (clampL ((sha T512 s).take 32)).map byteV) rfl z_C (by rw [List.length_map, clampL_len' (by rw [List.length_take, sha512_len]; rfl)]) (.many (l := ((sha T512 s).drop 32).map byteV) rfl z_C (by rw [List.length_map, List.length_drop, sha512_len]) .nil)) (FillL.of_segs [(clampL ((sha T512 s).take 32)).map byteV, ((sha T512 s).drop 32).map byteV] (by simp only [offsL, List.length_map, clampL_len' (show ((sha T512 s).take 32).length = 32 by rw [List.length_take, sha512_len]; rfl)]) (by simp [List.length_drop, sha512_len, clampL_len' (show ((sha T512 s).take 32).length = 32 by rw [List.length_take, sha512_len]; rfl)]) (by rw [← halves_fill]; simp))) ?_
  refine MOps.last ?_
  exact MOps.nil
 ·
  intro e_ Y_ hp_ hs_
  refine T1.known (tr := [(2, _), (14, _)]) (.cons ((hs_ 2 zr).trans z_C) (.cons (hp_ 7 14 ze zr) .nil)) ?_
  refine T1.storeN rfl rfl sz_88 (one_bytes _) z_H (by rw [half_len]; rfl) (half_len s) ?_
  refine T.ret ?_
  exact ⟨_, G, _, .cons (.cellN z_C one_88 sz_88 (RdN.whole z_A) (half_len s)) .nil, z_B, rfl, rfl⟩
def MPt (A : Pt crv) : Value → List Blk → Prop := fun v _ => PtV A v
theorem MPt.mono {A : Pt crv} (v : Value) (Y Z : List Blk) (h : MPt A v Y) : MPt A v (Z ++ Y) := h
theorem Public_any (w0 : World) (s : List UInt8) (hs : s.length = 32) : FnV P 6 [.agg ((s).map byteV).toArray] w0 [] (fun v => v = .agg ((pubL s).map byteV).toArray) := by
 refine FnV.of 9 [.cell 2 36] Go.Proofs.Tryz.func6 rfl rfl rfl rfl (fun G hG => ?_)
 refine zs ?_
 refine zc (T1.boxN (vs := (s).map byteV) 32 rfl (by rw [List.length_map, hs]) (fun b1 => ?_))
 refine zc (T1.allocN 32 zr_36 rfl (fun b2 => ?_))
 refine TL.nil ?_
 refine T.seq (T.drawM (FL [MV (ptV ⟨bxF, byF, oneF, mulF bxF byF⟩), MV (.agg ((s).map byteV).toArray), MV (.agg ((seedA s ++ seedP s).map byteV).toArray), MV (.agg ((seedA s).map byteV).toArray), MPt (Pt.smul (leN (seedA s)) Bs), MV (.agg ((pubL s).map byteV).toArray), MT]) 6 mixed z_F z_F (FMono.at (.cons MV.mono (.cons MV.mono (.cons MV.mono (.cons MV.mono (.cons MPt.mono (.cons MV.mono (.cons MT.mono .nil)))))))) ?_ ?_)
 ·
  refine zt zE (fun _ _ => T1.call0 has_23 rfl (fun w hs => Base_exact w) (fun _ hv => ⟨_, [], rfl, rfl, hv⟩)) ?_
  refine zm (zS 1 zE) (V1.loadN (vs := s.map byteV) one_36 sz_36 rfl (RdN.whole z_A) (by rw [List.length_map, hs])) ?_
  refine zt (zP 1 4 rfl zE) (fun _ _ => T1.callV has_25 rfl rfl (halves_any w0 s hs) z_D (fun _ hv => ⟨_, [], rfl, rfl, hv⟩)) ?_
  refine zm (zP 2 5 rfl zE) (V1.fieldN (vs := (seedA s ++ seedP s).map byteV) (us := (seedA s).map byteV) (show fieldTy P 88 0 = some (0, 36) from by kernel_rfl) one_36 sz_36 rfl (half_A s)) ?_
  refine zt (zP 0 3 rfl (zP 3 6 rfl zE)) (fun e_ Y_ => T1.call0 has_24 rfl (fun w hs => Multiply_any base_pt (seedA s) (seedA_len s) w) (fun v hv => ?_)) ?_
  ·
   exact ⟨_, [], rfl, rfl, hv⟩
  refine MOps.cons (fun e_ Y_ hp_ hs_ => ?_) ?_
  ·
   obtain ⟨p7, h7, r7⟩ := (show (MPt (Pt.smul (leN (seedA s)) Bs)) (e_ 7) Y_ from hp_ 4 7 zr zr)
   refine MOp.of (tr := [(7, _)]) (.cons h7 .nil) ?_
   refine T1.call0 has_26 rfl (fun w hs => Encode_pt r7 w) (fun v hv => ?_)
   rw [← pubL_eq] at hv
   subst hv
   exact ⟨_, [], rfl, rfl, rfl⟩
  refine MOps.last ?_
  exact MOps.nil
 ·
  intro e_ Y_ hp_ hs_
  refine T1.known (tr := [(2, _), (8, _)]) (.cons ((hs_ 2 zr).trans z_C) (.cons (hp_ 5 8 ze zr) .nil)) ?_
  refine T1.storeN rfl rfl sz_36 (one_bytes _) z_H (by rw [List.length_map, pubL_len]; rfl) (by rw [List.length_map, pubL_len]) ?_
  refine T.ret ?_
  exact ⟨_, G, _, .cons (.cellN z_C one_36 sz_36 (RdN.whole z_A) (by rw [List.length_map, pubL_len])) .nil, z_B, rfl, rfl⟩
theorem reduce_any (w0 : World) (Ps : List Blk) {v : Value} (ps : List (List UInt8)) (m : List UInt8) (hm : ps.flatten = m) (hp : PartsR w0 Ps v ps) (hlen : ∀ p ∈ ps, p.length ≤ 200000000000000) (hpn : ps.length < 9223372036854775807) (hfl : ps.flatten.length < 4611686018427387904) (R : Nat) (hR : R = redL m) : FnV P 45 [v] w0 Ps (fun v => v = .agg ((leF R).map byteV).toArray) := by
 refine FnV.of 9 [.cell 2 36] Go.Proofs.Tryz.func45 rfl rfl rfl rfl (fun G hG => ?_)
 refine zs ?_
 refine zc (T1.allocN 32 zr_36 rfl (fun b2 => zs ?_))
 refine zc (T1.callV has_54 rfl rfl (Sum512_v w0 Ps ps hp hlen hpn hfl) z_D (fun v_ hv => ?_))
 rw [hm] at hv
 obtain rfl := hv
 refine zc (T1.allocN 64 zr_74 rfl (fun b3 => ?_))
 refine zc (T1.storeN rfl rfl sz_74 (one_bytes _) z_H (by rw [List.length_map, sha512_len]; rfl) (by rw [List.length_map, sha512_len]) ?_)
 refine zs ?_
 refine z0 (V1.sliceA ty_74 sz_5 rfl rfl rfl ze ze ze) ?_
 refine zc (T1.buildSl1 (os := [.tmp 6]) (vs := [.slice (some ⟨b3, 0, none⟩) 64 64]) ty_115 sz_44 zr_44 ze rfl (.cons z_C .nil) rfl (ones rfl) (fun b7 => ?_))
 refine zc (T1.callV has_84 rfl rfl (Reduce_any w0 [⟨b7, 0, [.slice (some ⟨b3, 0, none⟩) 64 64], 1⟩, ⟨b3, 0, (sha T512 m).map byteV, 64⟩] (sha T512 m) (vp := .slice (some ⟨b3, 0, none⟩) 64 64) (bl := b7) (ol := 0) (cc := 1) (sha512_len m) (RowR.own (List.mem_cons_of_mem _ (List.mem_cons_self ..)) ((List.length_map ..).trans ((sha512_len m).trans rfl))) (fun C _ _ L hL => Rd.own (hL.find (List.mem_cons_self ..)) rfl) R (by rw [hR, redL_eq])) z_D (fun v_ hv => ?_))
 obtain rfl := hv
 refine zc (T1.storeN rfl rfl sz_36 (one_bytes _) z_H z_Q z_M ?_)
 refine zs ?_
 exact ⟨_, G, _, .cons (.cellN z_C one_36 sz_36 (RdN.whole z_A) z_M) .nil, z_B, rfl, rfl⟩
end Go.Proofs.YtfjedhmffccgnaaGreatDoor.S
namespace Go.Proofs.YtfjedhmffccgnaaGreatDoor.S
open Go.RowKit
open Ed Sh
def sigR (s m : List UInt8) : Nat := redL (seedP s ++ m)
noncomputable def sigF (s m : List UInt8) : List UInt8 := encP (Pt.smul (sigR s m) Bs)
noncomputable def sigK (s m : List UInt8) : Nat := redL (sigF s m ++ (pubL s ++ m))
noncomputable def sigS (s m : List UInt8) : Nat := (sigK s m * leN (seedA s) + sigR s m) % Lo
noncomputable def sigL (s m : List UInt8) : List UInt8 := sigF s m ++ leF (sigS s m)
theorem sigF_len (s m : List UInt8) : (sigF s m).length = 32 := encP_len _
theorem sigL_len (s m : List UInt8) : (sigL s m).length = 64 := by unfold sigL; rw [List.length_append, sigF_len, leF_len]
theorem sigF_eq (s m : List UInt8) : sigF s m = encP (Pt.smul (sigR s m) Bs) := rfl
theorem sigR_eq (s m : List UInt8) : sigR s m = redL (seedP s ++ m) := rfl
theorem sigK_eq (s m : List UInt8) : sigK s m = redL (sigF s m ++ (pubL s ++ m)) := rfl
theorem sigS_eq (s m : List UInt8) : sigS s m = (sigK s m * leN (seedA s) + sigR s m) % Lo := rfl
theorem redL_lt (m : List UInt8) : redL m < 2 ^ 256 := by rw [redL_eq]; exact Lo_8 _
theorem sigS_lt (s m : List UInt8) : sigS s m < Lo := Nat.mod_lt _ Lo_pos
theorem sigL_eq (s m : List UInt8) : sigL s m = sigF s m ++ leF (sigS s m) := rfl
attribute [irreducible] sigR sigF sigK sigS sigL
theorem MulF_any {A : Pt crv} {p : P4} (hp : PtR A p) (R : Nat) (hR : R < 2 ^ 256) (w : World) : Fn P 24 [ptV p, .agg ((leF R).map byteV).toArray] w [] (fun v Y => Y = [] ∧ PtV (Pt.smul R A) v) := by
 have := Multiply_any hp (leF R) (leF_len R) w
 rw [leN_leF hR] at this; exact this
theorem parts_app {w0 : World} {Ps Qs Ls Rs : List Blk} {s : Value} {svs0 svs : List Value} {ps0 ps : List (List UInt8)} {tg : Option TypeId} (h : SlG tg s (svs0 ++ svs) 1 Ls) (h0 : svs0.length = ps0.length) (hl : svs.length = ps.length) (hel0 : ∀ (i : Nat) (sv : Value) (p : List UInt8), svs0[i]? = some sv → ps0[i]? = some p → PartR w0 Qs sv p)
 (hel : ∀ (i : Nat) (sv : Value) (p : List UInt8), svs[i]? = some sv → ps[i]? = some p → PartR w0 Ps sv p) (h1 : Inc Ls Rs) (h2 : Inc Qs Rs) (h3 : Inc Ps Rs) : PartsR w0 Rs s (ps0 ++ ps) := by
 refine PartsR.ofSl h h1 (by rw [List.length_append, List.length_append, h0, hl]) fun i sv p hs hp => ?_
 by_cases c : i < svs0.length
 ·
  rw [List.getElem?_append_left c] at hs
  rw [List.getElem?_append_left (by omega)] at hp
  exact (hel0 i sv p hs hp).more h2
 ·
  rw [List.getElem?_append_right (by omega)] at hs
  rw [List.getElem?_append_right zw, ← h0] at hp
  exact (hel _ sv p hs hp).more h3
theorem two_part {w0 : World} {Ps : List Blk} {v u : Value} {p q : List UInt8} (h : PartR w0 Ps v p) (h2 : PartR w0 Ps u q) : ∀ (i : Nat) (sv : Value) (x : List UInt8), [v, u][i]? = some sv → [p, q][i]? = some x → PartR w0 Ps sv x := by
 intro i sv x h3 h4
 match i with
 | 0 => cases h3; cases h4; exact h
 | 1 => cases h3; cases h4; exact h2
 | i + 2 => simp at h3
theorem len_app {ps0 ps : List (List UInt8)} (h0 : ∀ p ∈ ps0, p.length ≤ 200000000000000) (h : ∀ p ∈ ps, p.length ≤ 1000000) : ∀ p ∈ ps0 ++ ps, p.length ≤ 200000000000000 := fun p hp => (List.mem_append.1 hp).elim (h0 p) fun h' => Nat.le_trans (h p h') ze
theorem parts_len {ps : List (List UInt8)} {m : List UInt8} (hm : ps.flatten = m) (h : m.length ≤ 1000000) : ∀ p ∈ ps, p.length ≤ 1000000 := fun p hp => by
 refine Nat.le_trans ?_ h
 rw [← hm]
 obtain ⟨a, b, rfl⟩ := List.append_of_mem hp
 simp only [List.flatten_append, List.flatten_cons, List.length_append]; omega
theorem part32 {w0 : World} {Ps : List Blk} {b : Nat} {l : List UInt8} (hl : l.length = 32) (hB : (⟨b, 0, l.map byteV, 32⟩ : Blk) ∈ Ps) : PartR w0 Ps (.slice (some ⟨b, 0, none⟩) 32 32) l := RowR.part hl (RowR.own hB (by rw [List.length_map, hl]))
set_option maxRecDepth 100000 in
set_option maxHeartbeats 2000000 in
theorem Make_any (w0 : World) (Ps : List Blk) {v : Value} (s : List UInt8) (hsl : s.length = 32) (ps : List (List UInt8)) (m : List UInt8) (hm : ps.flatten = m) (hml : m.length ≤ 1000000) (hp : PartsR w0 Ps v ps) (hpn : ps.length ≤ 8) : FnV P 22 [.agg ((s).map byteV).toArray, v] w0 Ps (fun v => v = .agg ((sigL s m).map byteV).toArray) := by
 obtain ⟨svs, hsl2, hso, hsv, hse⟩ := hp.svs
 have hlp := parts_len hm hml
 refine FnV.of 44 [.cell 4 74] Go.Proofs.Tryz.func22 rfl rfl rfl rfl (fun G hG => ?_)
 refine zs ?_
 refine zc (T1.boxN (vs := (s).map byteV) 32 rfl (by rw [List.length_map, hsl]) (fun b2 => ?_))
 refine zc (T1.allocN 64 zr_74 rfl (fun b4 => zs ?_))
 refine z0 (V1.loadN (vs := (s).map byteV) one_36 sz_36 rfl (RdN.whole z_A) (by rw [List.length_map, hsl])) ?_
 refine zc (T1.callV has_25 rfl rfl (halves_any w0 s hsl) z_D (fun v_ hv => ?_))
 obtain rfl := hv
 refine zc (T1.allocN 64 zr_88 rfl (fun b5 => ?_))
 refine zc (T1.storeN rfl rfl sz_88 (one_bytes _) z_H (by rw [half_len]; rfl) (half_len s) ?_)
 refine TL.nil ?_
 refine T.seq (T.drawM (FL [MV (ptV ⟨bxF, byF, oneF, mulF bxF byF⟩), zp b5 0, MV (.agg ((seedA s).map byteV).toArray), MPt (Pt.smul (leN (seedA s)) Bs), MV (.agg ((pubL s).map byteV).toArray), MAl (List.replicate 32 (.int .u8 0)) 32, MT]) 6 mixed z_F z_F (FMono.at (.cons MV.mono (.cons MV.mono (.cons MV.mono (.cons MPt.mono (.cons MV.mono (.cons MAl.mono (.cons MT.mono .nil)))))))) ?_ ?_)
 ·
  refine zt zE (fun _ _ => T1.call0 has_23 rfl (fun w hs => Base_exact w) (fun _ hv => ⟨_, [], rfl, rfl, hv⟩)) ?_
  refine zm (zS 5 zE) (V1.fieldAddr fl_88_0 rfl) ?_
  refine zm (zP 1 14 rfl zE) (V1.loadN (vs := (seedA s).map byteV) one_36 sz_36 rfl (show RdN _ _ ⟨b5, 0 + 0, none⟩ _ from by rw [← half_A]; exact RdN.sub z_A) (by rw [List.length_map, seedA_len])) ?_
  refine zt (zP 0 13 rfl (zP 2 15 rfl zE)) (fun e_ Y_ => T1.call0 has_24 rfl (fun w hs => Multiply_any base_pt (seedA s) (seedA_len s) w) (fun v hv => ?_)) ?_
  ·
   exact ⟨_, [], rfl, rfl, hv⟩
  refine MOps.cons (fun e_ Y_ hp_ hs_ => ?_) ?_
  ·
   obtain ⟨p16, h16, r16⟩ := (show (MPt (Pt.smul (leN (seedA s)) Bs)) (e_ 16) Y_ from hp_ 3 16 zr zr)
   refine MOp.of (tr := [(16, _)]) (.cons h16 .nil) ?_
   refine T1.call0 has_26 rfl (fun w hs => Encode_pt r16 w) (fun v hv => ?_)
   rw [← pubL_eq] at hv
   subst hv
   exact ⟨_, [], rfl, rfl, rfl⟩
  refine zt zE (fun e_ Y_ => T1.allocN 32 zr_36 rfl (fun b6 => ?_)) ?_
  ·
   exact ⟨_, [⟨b6, 0, List.replicate 32 (.int .u8 0), 32⟩], rfl, rfl, ⟨_, rfl, List.mem_cons_self ..⟩⟩
  refine MOps.last ?_
  exact MOps.nil
 ·
  intro e_ Y_ hp_ hs_
  obtain ⟨b6, hb6, hm6⟩ := (show (MAl (List.replicate 32 (.int .u8 0)) 32) (e_ 6) Y_ from hp_ 5 6 ze zr)
  refine T1.known (tr := [(1, _), (4, _), (5, _), (6, _), (17, _)]) (.cons ((hs_ 1 zr).trans z_C) (.cons ((hs_ 4 zr).trans z_C) (.cons ((hs_ 5 zr).trans z_C) (.cons hb6 (.cons (hp_ 4 17 ze zr) .nil))))) ?_
  refine T1.sub ?_ (List.Sublist.append (List.singleton_sublist.2 hm6) (List.Sublist.refl _))
  dsimp only [List.cons_append, List.nil_append]
  refine T1.storeN rfl rfl sz_36 (one_bytes _) z_H (by rw [List.length_map, pubL_len, List.length_replicate]) (by rw [List.length_map, pubL_len]) ?_
  refine zs ?_
  refine z0 (V1.fieldAddr fl_88_1 rfl) ?_
  refine z0 (V1.sliceA ty_36 sz_5 rfl rfl rfl ze ze ze) ?_
  refine zc (T1.buildSl1 (os := [.tmp 19]) (vs := [.slice (some ⟨b5, 0 + 32, none⟩) 32 32]) ty_115 sz_44 zr_44 ze rfl (.cons z_C .nil) rfl (ones rfl) (fun b20 => zs ?_))
  refine zc (T1.append ty_115 kd_115 sz_44 by_44 zr_44 rfl ze ze rfl rfl (Sl.mk (b := b20) (xs := [.slice (some ⟨b5, 0 + 32, none⟩) 32 32]) (len := 1) (cap := 1) (size := 1) rfl ze ze) (hsv _ rfl rfl _ z_D) hso 1000 (by simp only [List.length_cons, List.length_nil]; omega) ze z_E (fun s1 Ls1 hs1 => ?_))
  refine zc (T1.callV has_45 rfl rfl (reduce_any w0 (Ls1 ++ ([⟨b5, 0, (seedA s ++ seedP s).map byteV, 64⟩] ++ Ps)) ([seedP s] ++ ps) (seedP s ++ m) (by simp [hm]) (parts_app hs1 rfl hsl2 (one_part (RowR.part (seedP_len s) (RowR.piece (List.mem_cons_self ..) (half_P s) (by rw [List.length_map, seedP_len])))) hse Inc.here (Inc.skip Inc.here) (Inc.skip (Inc.skip Inc.refl))) (len_app (one_len (by rw [seedP_len]; decide)) hlp) z_P (by simp only [List.flatten_append, hm, List.flatten_cons, List.flatten_nil, List.append_nil, List.length_append, seedP_len, sigF_len, pubL_len, encP_len]; omega) (sigR s m) (sigR_eq s m)) z_D (fun v_ hv => ?_))
  obtain rfl := hv
  refine zc (T1.allocN 32 zr_36 rfl (fun b7 => ?_))
  refine zc (T1.storeN rfl rfl sz_36 (one_bytes _) z_H z_Q z_M ?_)
  refine TL.nil ?_
  refine T.seq (T.drawM (FL [MV (ptV ⟨bxF, byF, oneF, mulF bxF byF⟩), MV (.agg ((leF (sigR s m)).map byteV).toArray), MPt (Pt.smul (sigR s m) Bs), MV (.agg (((sigF s m)).map byteV).toArray), MAl (List.replicate 32 (.int .u8 0)) 32, MT]) 5 mixed z_F z_F (FMono.at (.cons MV.mono (.cons MV.mono (.cons MPt.mono (.cons MV.mono (.cons MAl.mono (.cons MT.mono .nil))))))) ?_ ?_)
  ·
   refine zt zE (fun _ _ => T1.call0 has_23 rfl (fun w hs => Base_exact w) (fun _ hv => ⟨_, [], rfl, rfl, hv⟩)) ?_
   refine zm (zS 7 zE) (V1.loadN (vs := (leF (sigR s m)).map byteV) one_36 sz_36 rfl (RdN.whole z_A) z_M) ?_
   refine zt (zP 0 24 rfl (zP 1 25 rfl zE)) (fun e_ Y_ => T1.call0 has_24 rfl (fun w hs => MulF_any base_pt (sigR s m) (by rw [sigR_eq]; exact redL_lt _) w) (fun v hv => ?_)) ?_
   ·
    exact ⟨_, [], rfl, rfl, hv⟩
   refine MOps.cons (fun e_ Y_ hp_ hs_ => ?_) ?_
   ·
    obtain ⟨p26, h26, r26⟩ := (show (MPt (Pt.smul (sigR s m) Bs)) (e_ 26) Y_ from hp_ 2 26 zr zr)
    refine MOp.of (tr := [(26, _)]) (.cons h26 .nil) ?_
    refine T1.call0 has_26 rfl (fun w hs => Encode_pt r26 w) (fun v hv => ?_)
    rw [← sigF_eq] at hv
    subst hv
    exact ⟨_, [], rfl, rfl, rfl⟩
   refine zt zE (fun e_ Y_ => T1.allocN 32 zr_36 rfl (fun b8 => ?_)) ?_
   ·
    exact ⟨_, [⟨b8, 0, List.replicate 32 (.int .u8 0), 32⟩], rfl, rfl, ⟨_, rfl, List.mem_cons_self ..⟩⟩
   refine MOps.last ?_
   exact MOps.nil
  ·
   intro e_ Y_ hp_ hs_
   obtain ⟨b8, hb8, hm8⟩ := (show (MAl (List.replicate 32 (.int .u8 0)) 32) (e_ 8) Y_ from hp_ 4 8 ze zr)
   refine T1.known (tr := [(1, _), (4, _), (5, _), (6, _), (7, _), (8, _), (27, _)]) (.cons ((hs_ 1 zr).trans z_C) (.cons ((hs_ 4 zr).trans z_C) (.cons ((hs_ 5 zr).trans z_C) (.cons ((hs_ 6 zr).trans z_C) (.cons ((hs_ 7 zr).trans z_C) (.cons hb8 (.cons (hp_ 3 27 ze zr) .nil))))))) ?_
   refine T1.sub ?_ (List.Sublist.append (List.singleton_sublist.2 hm8) (List.Sublist.refl _))
   dsimp only [List.cons_append, List.nil_append]
   refine T1.storeN rfl rfl sz_36 (one_bytes _) z_H (by rw [List.length_map, sigF_len, List.length_replicate]) (by rw [List.length_map, sigF_len]) ?_
   refine T.cut (σ := Nat) (l0 := [(4, _), (5, _), (7, _), (8, _)]) (fun x => [(9, .pointer (some ⟨x, 0, none⟩))]) (fun x L => L = ⟨x, 0, (leF (sigK s m)).map byteV, 32⟩ :: ⟨b8, 0, ((sigF s m)).map byteV, 32⟩ :: ⟨b7, 0, (leF (sigR s m)).map byteV, 32⟩ :: ⟨b5, 0, (seedA s ++ seedP s).map byteV, 64⟩ :: ⟨b4, 0, List.replicate 64 (.int .u8 0), 64⟩ :: G) (.cons z_C (.cons z_C (.cons z_C (.cons z_C .nil)))) ?_ ?_
   ·
    refine T.drawK (fun L_ => True) mixed trivial ?_
    refine zk 0 rfl (fun _ => V1.sliceA ty_36 sz_5 rfl rfl rfl ze ze ze) ?_
    refine zk 1 rfl (fun _ => V1.sliceA ty_36 sz_5 rfl rfl rfl ze ze ze) ?_
    refine zk 3 rfl (fun _ => V1.move' z_C) ?_
    refine TK.two 2 6 z_F rfl rfl rfl rfl (T1.buildSl1 (os := [.tmp 28, .tmp 29]) (vs := [.slice (some ⟨b8, 0, none⟩) 32 32, .slice (some ⟨b6, 0, none⟩) 32 32]) ty_115 sz_44 zr_44 ze rfl (.cons z_C (.cons z_C .nil)) rfl (ones rfl) (fun b30 => ?_)) (T1.allocN 32 zr_36 rfl (fun b9 => ?_))
    ·
     refine ⟨trivial, TK.two 4 6 z_F rfl rfl rfl rfl (T1.append ty_115 kd_115 sz_44 by_44 zr_44 rfl ze ze rfl rfl (Sl.mk (b := b30) (xs := [.slice (some ⟨b8, 0, none⟩) 32 32, .slice (some ⟨b6, 0, none⟩) 32 32]) (len := 2) (cap := 2) (size := 2) rfl ze ze) (hsv _ rfl rfl _ z_D) hso 1000 (by simp only [List.length_cons, List.length_nil]; omega) ze z_E (fun s1 Ls1 hs1 => ?_)) (T1.allocN 32 zr_36 rfl (fun b9 => ?_))⟩
     ·
      refine ⟨trivial, TK.two 5 6 z_F rfl rfl rfl rfl (T1.callV has_45 rfl rfl (reduce_any w0 (Ls1 ++ ([⟨b8, 0, ((sigF s m)).map byteV, 32⟩, ⟨b6, 0, (pubL s).map byteV, 32⟩] ++ Ps)) ([(sigF s m), pubL s] ++ ps) ((sigF s m) ++ (pubL s ++ m)) (by simp [hm]) (parts_app hs1 rfl hsl2 (two_part (part32 (sigF_len s m) (List.mem_cons_self ..)) (part32 (pubL_len s) (List.mem_cons_of_mem _ (List.mem_cons_self ..)))) hse Inc.here (Inc.skip Inc.here) (Inc.skip (Inc.skip Inc.refl))) (len_app (fun p hp => by simp only [List.mem_cons, List.not_mem_nil, or_false] at hp; rcases hp with rfl | rfl; rw [sigF_len]; decide; rw [pubL_len]; decide) hlp) z_P (by simp only [List.flatten_append, hm, List.flatten_cons, List.flatten_nil, List.append_nil, List.length_append, seedP_len, sigF_len, pubL_len, encP_len]; omega) (sigK s m) (sigK_eq s m)) z_D (fun v_ hv => ?_)) (T1.allocN 32 zr_36 rfl (fun b9 => ?_))⟩
      ·
       obtain rfl := hv
       refine ⟨trivial, zo 6 rfl rfl (T1.allocN 32 zr_36 rfl (fun b9 => ?_))⟩
       refine ⟨trivial, zo 7 rfl rfl (T1.storeN rfl rfl sz_36 (one_bytes _) z_H z_Q z_M ?_)⟩
       exact ⟨trivial, TD.done z_F ⟨b9, _, _, trivial, (.cons rfl .nil), (.cons rfl (.cons rfl (.cons rfl (.cons rfl .nil)))), z_B, rfl⟩⟩
      ·
       refine ⟨trivial, zo 5 rfl rfl (T1.callV has_45 rfl rfl (reduce_any w0 (Ls1 ++ ([⟨b8, 0, ((sigF s m)).map byteV, 32⟩, ⟨b6, 0, (pubL s).map byteV, 32⟩] ++ Ps)) ([(sigF s m), pubL s] ++ ps) ((sigF s m) ++ (pubL s ++ m)) (by simp [hm]) (parts_app hs1 rfl hsl2 (two_part (part32 (sigF_len s m) (List.mem_cons_self ..)) (part32 (pubL_len s) (List.mem_cons_of_mem _ (List.mem_cons_self ..)))) hse Inc.here (Inc.skip Inc.here) (Inc.skip (Inc.skip Inc.refl))) (len_app (fun p hp => by simp only [List.mem_cons, List.not_mem_nil, or_false] at hp; rcases hp with rfl | rfl; rw [sigF_len]; decide; rw [pubL_len]; decide) hlp) z_P (by simp only [List.flatten_append, hm, List.flatten_cons, List.flatten_nil, List.append_nil, List.length_append, seedP_len, sigF_len, pubL_len, encP_len]; omega) (sigK s m) (sigK_eq s m)) z_D (fun v_ hv => ?_))⟩
       obtain rfl := hv
       refine ⟨trivial, zo 7 rfl rfl (T1.storeN rfl rfl sz_36 (one_bytes _) z_H z_Q z_M ?_)⟩
       exact ⟨trivial, TD.done z_F ⟨b9, _, _, trivial, (.cons rfl .nil), (.cons rfl (.cons rfl (.cons rfl (.cons rfl .nil)))), z_B, rfl⟩⟩
     ·
      refine ⟨trivial, zo 4 rfl rfl (T1.append ty_115 kd_115 sz_44 by_44 zr_44 rfl ze ze rfl rfl (Sl.mk (b := b30) (xs := [.slice (some ⟨b8, 0, none⟩) 32 32, .slice (some ⟨b6, 0, none⟩) 32 32]) (len := 2) (cap := 2) (size := 2) rfl ze ze) (hsv _ rfl rfl _ z_D) hso 1000 (by simp only [List.length_cons, List.length_nil]; omega) ze z_E (fun s1 Ls1 hs1 => ?_))⟩
      refine ⟨trivial, zo 5 rfl rfl (T1.callV has_45 rfl rfl (reduce_any w0 (Ls1 ++ ([⟨b8, 0, ((sigF s m)).map byteV, 32⟩, ⟨b6, 0, (pubL s).map byteV, 32⟩] ++ Ps)) ([(sigF s m), pubL s] ++ ps) ((sigF s m) ++ (pubL s ++ m)) (by simp [hm]) (parts_app hs1 rfl hsl2 (two_part (part32 (sigF_len s m) (List.mem_cons_self ..)) (part32 (pubL_len s) (List.mem_cons_of_mem _ (List.mem_cons_self ..)))) hse Inc.here (Inc.skip Inc.here) (Inc.skip (Inc.skip Inc.refl))) (len_app (fun p hp => by simp only [List.mem_cons, List.not_mem_nil, or_false] at hp; rcases hp with rfl | rfl; rw [sigF_len]; decide; rw [pubL_len]; decide) hlp) z_P (by simp only [List.flatten_append, hm, List.flatten_cons, List.flatten_nil, List.append_nil, List.length_append, seedP_len, sigF_len, pubL_len, encP_len]; omega) (sigK s m) (sigK_eq s m)) z_D (fun v_ hv => ?_))⟩
      obtain rfl := hv
      refine ⟨trivial, zo 7 rfl rfl (T1.storeN rfl rfl sz_36 (one_bytes _) z_H z_Q z_M ?_)⟩
      exact ⟨trivial, TD.done z_F ⟨b9, _, _, trivial, (.cons rfl .nil), (.cons rfl (.cons rfl (.cons rfl (.cons rfl .nil)))), z_B, rfl⟩⟩
    ·
     refine ⟨trivial, zo 2 rfl rfl (T1.buildSl1 (os := [.tmp 28, .tmp 29]) (vs := [.slice (some ⟨b8, 0, none⟩) 32 32, .slice (some ⟨b6, 0, none⟩) 32 32]) ty_115 sz_44 zr_44 ze rfl (.cons z_C (.cons z_C .nil)) rfl (ones rfl) (fun b30 => ?_))⟩
     refine ⟨trivial, zo 4 rfl rfl (T1.append ty_115 kd_115 sz_44 by_44 zr_44 rfl ze ze rfl rfl (Sl.mk (b := b30) (xs := [.slice (some ⟨b8, 0, none⟩) 32 32, .slice (some ⟨b6, 0, none⟩) 32 32]) (len := 2) (cap := 2) (size := 2) rfl ze ze) (hsv _ rfl rfl _ z_D) hso 1000 (by simp only [List.length_cons, List.length_nil]; omega) ze z_E (fun s1 Ls1 hs1 => ?_))⟩
     refine ⟨trivial, zo 5 rfl rfl (T1.callV has_45 rfl rfl (reduce_any w0 (Ls1 ++ ([⟨b8, 0, ((sigF s m)).map byteV, 32⟩, ⟨b6, 0, (pubL s).map byteV, 32⟩] ++ Ps)) ([(sigF s m), pubL s] ++ ps) ((sigF s m) ++ (pubL s ++ m)) (by simp [hm]) (parts_app hs1 rfl hsl2 (two_part (part32 (sigF_len s m) (List.mem_cons_self ..)) (part32 (pubL_len s) (List.mem_cons_of_mem _ (List.mem_cons_self ..)))) hse Inc.here (Inc.skip Inc.here) (Inc.skip (Inc.skip Inc.refl))) (len_app (fun p hp => by simp only [List.mem_cons, List.not_mem_nil, or_false] at hp; rcases hp with rfl | rfl; rw [sigF_len]; decide; rw [pubL_len]; decide) hlp) z_P (by simp only [List.flatten_append, hm, List.flatten_cons, List.flatten_nil, List.append_nil, List.length_append, seedP_len, sigF_len, pubL_len, encP_len]; omega) (sigK s m) (sigK_eq s m)) z_D (fun v_ hv => ?_))⟩
     obtain rfl := hv
     refine ⟨trivial, zo 7 rfl rfl (T1.storeN rfl rfl sz_36 (one_bytes _) z_H z_Q z_M ?_)⟩
     exact ⟨trivial, TD.done z_F ⟨b9, _, _, trivial, (.cons rfl .nil), (.cons rfl (.cons rfl (.cons rfl (.cons rfl .nil)))), z_B, rfl⟩⟩
   ·
    rintro b9 e_ L rfl
    refine zs ?_
    refine z0 (V1.loadN (vs := (leF (sigK s m)).map byteV) one_36 sz_36 rfl (RdN.whole z_A) z_M) ?_
    refine z0 (V1.fieldAddr fl_88_0 rfl) ?_
    refine z0 (V1.loadN (vs := (seedA s).map byteV) one_36 sz_36 rfl (show RdN _ _ ⟨b5, 0 + 0, none⟩ _ from by rw [← half_A]; exact RdN.sub z_A) (by rw [List.length_map, seedA_len])) ?_
    refine z0 (V1.loadN (vs := (leF (sigR s m)).map byteV) one_36 sz_36 rfl (RdN.whole z_A) z_M) ?_
    refine zc (T1.callV has_46 rfl rfl (MulAdd_any w0 (leF (sigK s m)) (seedA s) (leF (sigR s m)) (leF_len _) (seedA_len s) (leF_len _) (sigS s m) (by rw [leN_leF (by rw [sigK_eq]; exact redL_lt _), leN_leF (by rw [sigR_eq]; exact redL_lt _)]; exact sigS_eq s m)) z_D (fun v_ hv => ?_))
    obtain rfl := hv
    refine zc (T1.allocN 32 zr_36 rfl (fun b10 => ?_))
    refine zc (T1.storeN rfl rfl sz_36 (one_bytes _) z_H z_Q z_M ?_)
    refine TL.nil ?_
    refine T.seq (T.drawK (fun L_ => True) mixed trivial ?_)
    refine zk 0 rfl (fun _ => V1.sliceA ty_36 sz_5 rfl rfl rfl ze ze ze) ?_
    refine zk 1 rfl (fun _ => V1.sliceA ty_36 sz_5 rfl rfl rfl ze ze ze) ?_
    refine zo 2 rfl rfl (T1.append ty_44 kd_44 sz_5 by_5 zr_5 rfl ze ze rfl rfl (Sl.mk (b := b8) (xs := (sigF s m).map byteV) (len := 32) (cap := 32) (size := 32) (by rw [List.length_map, sigF_len]) ze ze) (.sl (vs := (leF (sigS s m)).map byteV) (RdN.at0 z_A) z_Q) (one_bytes _) 1000 (by rw [List.length_map, List.length_map, sigF_len, leF_len]; decide) ze z_E (fun s1 Ls1 hs1 => ?_))
    replace hs1 : Sl s1 ((sigL s m).map byteV) 1 Ls1 := by rw [sigL_eq, List.map_append]; exact hs1
    obtain ⟨bz, oz, cz, zz, rfl, hcz, hzz, rfl⟩ := hs1.block (by intro h; have := congrArg List.length h; rw [List.length_map, sigL_len] at this; cases this)
    have hl64 : ((sigL s m).map byteV).length = 64 := by rw [List.length_map, sigL_len]
    rw [hl64] at hcz ⊢
    refine ⟨trivial, zk 3 rfl (fun _ => V1.s2ap ty_74 rfl ze) ?_⟩
    refine zo 4 rfl rfl (V1.t (V1.loadN (vs := (sigL s m).map byteV) one_74 sz_74 rfl (RdN.at0 z_A) hl64) ?_)
    refine ⟨trivial, zo 5 rfl rfl (T1.storeN rfl rfl sz_74 (one_bytes _) z_H (by rw [hl64]; rfl) hl64 ?_)⟩
    refine ⟨trivial, TD.done z_F ?_⟩
    refine T.ret ?_
    exact ⟨_, G, _, .cons (.cellN z_C one_74 sz_74 (RdN.whole z_A) hl64) .nil, z_B, rfl, rfl⟩
end Go.Proofs.YtfjedhmffccgnaaGreatDoor.S
