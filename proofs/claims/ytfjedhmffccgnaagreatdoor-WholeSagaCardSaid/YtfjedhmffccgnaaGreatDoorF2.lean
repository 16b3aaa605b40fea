/- One number times another. -/
import Derived.Test.YtfjedhmffccgnaaGreatDoorF1
namespace Go.Proofs.YtfjedhmffccgnaaGreatDoor.S
open Go.RowKit
open Ed
set_option maxRecDepth 100000 in
set_option maxHeartbeats 1000000 in
theorem Mul_exact (x y : L5) (w : World) : Fn P 49 [feV x, feV y] w [] (fun v Y => Y = [] ∧ v = feV (x.mulRaw y).carried) := by
 refine Fn.of 298 [.cell 4 82] Go.Proofs.Tryz.func49 rfl rfl rfl rfl ?_
 refine zs ?_
 refine zc (T1.boxN 5 rfl rfl (fun b2 => ?_))
 refine zc (T1.boxN 5 rfl rfl (fun b3 => ?_))
 refine zc (T1.allocN 5 zr_82 rfl (fun b4 => zs ?_))
 refine z0 (V1.fieldAddr fl_82_0 rfl) ?_
 refine zq1 (V1.fieldAddr fl_82_0 rfl) ?_
 refine T.seq (T.drawDet' mixed z_F ?_)
 refine zd 0 (zO 5 zZ) (V1.move' z_C) ?_
 refine zd 1 (zN 31 0 rfl zZ) (V1.nilCheck rfl) ?_
 refine zd 2 (zN 32 1 rfl zZ) (V1.indexAddrA ty_80 sz_79 rfl rfl ze ze) ?_
 refine Det.cons 3 (zN 33 2 rfl zZ) (fun e_ => .inl ⟨rfl, V1.t (V1.load1 one_79 rfl (.own z_A zr)) ⟨rfl, rfl⟩⟩) ?_
 refine zd 4 (zN 34 3 rfl zZ) (V1.mulW (a := 19#64) u64U rfl rfl) ?_
 refine zd 5 (zO 5 zZ) (V1.move' z_C) ?_
 refine zd 6 (zN 36 5 rfl zZ) (V1.nilCheck rfl) ?_
 refine zd 7 (zN 37 6 rfl zZ) (V1.indexAddrA ty_80 sz_79 rfl rfl ze ze) ?_
 refine Det.cons 8 (zN 38 7 rfl zZ) (fun e_ => .inl ⟨rfl, V1.t (V1.load1 one_79 rfl (.own z_A zr)) ⟨rfl, rfl⟩⟩) ?_
 refine zd 9 (zN 39 8 rfl zZ) (V1.mulW (a := 19#64) u64U rfl rfl) ?_
 refine zd 10 (zO 5 zZ) (V1.move' z_C) ?_
 refine zd 11 (zN 41 10 rfl zZ) (V1.nilCheck rfl) ?_
 refine zd 12 (zN 42 11 rfl zZ) (V1.indexAddrA ty_80 sz_79 rfl rfl ze ze) ?_
 refine Det.cons 13 (zN 43 12 rfl zZ) (fun e_ => .inl ⟨rfl, V1.t (V1.load1 one_79 rfl (.own z_A zr)) ⟨rfl, rfl⟩⟩) ?_
 refine zd 14 (zN 44 13 rfl zZ) (V1.mulW (a := 19#64) u64U rfl rfl) ?_
 refine zd 15 (zO 5 zZ) (V1.move' z_C) ?_
 refine zd 16 (zN 46 15 rfl zZ) (V1.nilCheck rfl) ?_
 refine zd 17 (zN 47 16 rfl zZ) (V1.indexAddrA ty_80 sz_79 rfl rfl ze ze) ?_
 refine Det.cons 18 (zN 48 17 rfl zZ) (fun e_ => .inl ⟨rfl, V1.t (V1.load1 one_79 rfl (.own z_A zr)) ⟨rfl, rfl⟩⟩) ?_
 refine zd 19 (zN 49 18 rfl zZ) (V1.mulW (a := 19#64) u64U rfl rfl) ?_
 refine zd 20 (zN 35 4 rfl zZ) (V1.assign' z_C) ?_
 refine zd 21 (zN 40 9 rfl zZ) (V1.assign' z_C) ?_
 refine zd 22 (zN 45 14 rfl zZ) (V1.assign' z_C) ?_
 refine zd 23 (zN 50 19 rfl zZ) (V1.assign' z_C) ?_
 refine Det.nil 24 (zQ 4 (zQ 5 (zQ 6 (zR 7 20 rfl (zR 8 21 rfl (zR 9 22 rfl (zR 10 23 rfl zW))))))) (fun e_ => ?_)
 refine T.seq (T.drawM (FL [zp b2 0, zp b2 0, zp b2 0, MV (w64 ((x).a)), zp b3 0, zp b3 0, zp b3 0, MV (w64 ((y).a)), MV (wdV (Wd.ofN (((x).a).toNat * ((y).a).toNat))), MV (w64 (19#64 * x.b)), zp b3 0, zp b3 0, zp b3 4, MV (w64 ((y).e)), MV (wdV (Wd.ofN (((x).a).toNat * ((y).a).toNat + (19#64 * x.b).toNat * ((y).e).toNat))), MV (w64 (19#64 * x.c)), zp b3 0, zp b3 0, zp b3 3, MV (w64 ((y).d)), MV (wdV (Wd.ofN (((x).a).toNat * ((y).a).toNat + (19#64 * x.b).toNat * ((y).e).toNat + (19#64 * x.c).toNat * ((y).d).toNat))), MV (w64 (19#64 * x.d)), zp b3 0, zp b3 0, zp b3 2, MV (w64 ((y).c)), MV (wdV (Wd.ofN (((x).a).toNat * ((y).a).toNat + (19#64 * x.b).toNat * ((y).e).toNat + (19#64 * x.c).toNat * ((y).d).toNat + (19#64 * x.d).toNat * ((y).c).toNat))), MV (w64 (19#64 * x.e)), zp b3 0, zp b3 0, zp b3 1, MV (w64 ((y).b)), MV (wdV (Wd.ofN (((x).a).toNat * ((y).a).toNat + (19#64 * x.b).toNat * ((y).e).toNat + (19#64 * x.c).toNat * ((y).d).toNat + (19#64 * x.d).toNat * ((y).c).toNat + (19#64 * x.e).toNat * ((y).b).toNat))), MAl ([.int .u64 0, .int .u64 0]) 2, MT]) 34 mixed z_F z_F zM ?_ ?_)
 ·
  refine zm (zS 5 zE) (V1.move' z_C) ?_
  refine zm (zP 0 51 rfl zE) (V1.nilCheck rfl) ?_
  refine zm (zP 1 52 rfl zE) (V1.indexAddrA ty_80 sz_79 rfl rfl ze ze) ?_
  refine zm (zP 2 53 rfl zE) (V1.load1 one_79 rfl (.own z_A zr)) ?_
  refine zm (zS 6 zE) (V1.move' z_C) ?_
  refine zm (zP 4 55 rfl zE) (V1.nilCheck rfl) ?_
  refine zm (zP 5 56 rfl zE) (V1.indexAddrA ty_80 sz_79 rfl rfl ze ze) ?_
  refine zm (zP 6 57 rfl zE) (V1.load1 one_79 rfl (.own z_A zr)) ?_
  refine zt (zP 3 54 rfl (zP 7 58 rfl zE)) (fun _ _ => T1.call0 has_90 rfl (fun w hs => times_any ((x).a) ((y).a) w) (fun _ hv => ⟨_, [], rfl, rfl, hv⟩)) ?_
  refine zm (zS 7 zE) (V1.move' z_C) ?_
  refine zm (zS 6 zE) (V1.move' z_C) ?_
  refine zm (zP 10 61 rfl zE) (V1.nilCheck rfl) ?_
  refine zm (zP 11 62 rfl zE) (V1.indexAddrA ty_80 sz_79 rfl rfl ze ze) ?_
  refine zm (zP 12 63 rfl zE) (V1.load1 one_79 rfl (.own z_A zr)) ?_
  refine zt (zP 8 59 rfl (zP 9 60 rfl (zP 13 64 rfl zE))) (fun _ _ => T1.call0 has_91 rfl (fun w hs => plus_any (((x).a).toNat * ((y).a).toNat) (19#64 * x.b) ((y).e) w) (fun _ hv => ⟨_, [], rfl, rfl, hv⟩)) ?_
  refine zm (zS 8 zE) (V1.move' z_C) ?_
  refine zm (zS 6 zE) (V1.move' z_C) ?_
  refine zm (zP 16 67 rfl zE) (V1.nilCheck rfl) ?_
  refine zm (zP 17 68 rfl zE) (V1.indexAddrA ty_80 sz_79 rfl rfl ze ze) ?_
  refine zm (zP 18 69 rfl zE) (V1.load1 one_79 rfl (.own z_A zr)) ?_
  refine zt (zP 14 65 rfl (zP 15 66 rfl (zP 19 70 rfl zE))) (fun _ _ => T1.call0 has_91 rfl (fun w hs => plus_any (((x).a).toNat * ((y).a).toNat + (19#64 * x.b).toNat * ((y).e).toNat) (19#64 * x.c) ((y).d) w) (fun _ hv => ⟨_, [], rfl, rfl, hv⟩)) ?_
  refine zm (zS 9 zE) (V1.move' z_C) ?_
  refine zm (zS 6 zE) (V1.move' z_C) ?_
  refine zm (zP 22 73 rfl zE) (V1.nilCheck rfl) ?_
  refine zm (zP 23 74 rfl zE) (V1.indexAddrA ty_80 sz_79 rfl rfl ze ze) ?_
  refine zm (zP 24 75 rfl zE) (V1.load1 one_79 rfl (.own z_A zr)) ?_
  refine zt (zP 20 71 rfl (zP 21 72 rfl (zP 25 76 rfl zE))) (fun _ _ => T1.call0 has_91 rfl (fun w hs => plus_any (((x).a).toNat * ((y).a).toNat + (19#64 * x.b).toNat * ((y).e).toNat + (19#64 * x.c).toNat * ((y).d).toNat) (19#64 * x.d) ((y).c) w) (fun _ hv => ⟨_, [], rfl, rfl, hv⟩)) ?_
  refine zm (zS 10 zE) (V1.move' z_C) ?_
  refine zm (zS 6 zE) (V1.move' z_C) ?_
  refine zm (zP 28 79 rfl zE) (V1.nilCheck rfl) ?_
  refine zm (zP 29 80 rfl zE) (V1.indexAddrA ty_80 sz_79 rfl rfl ze ze) ?_
  refine zm (zP 30 81 rfl zE) (V1.load1 one_79 rfl (.own z_A zr)) ?_
  refine zt (zP 26 77 rfl (zP 27 78 rfl (zP 31 82 rfl zE))) (fun _ _ => T1.call0 has_91 rfl (fun w hs => plus_any (((x).a).toNat * ((y).a).toNat + (19#64 * x.b).toNat * ((y).e).toNat + (19#64 * x.c).toNat * ((y).d).toNat + (19#64 * x.d).toNat * ((y).c).toNat) (19#64 * x.e) ((y).b) w) (fun _ hv => ⟨_, [], rfl, rfl, hv⟩)) ?_
  refine zt zE (fun e_ Y_ => T1.allocN 2 zr_154 rfl (fun b11 => ?_)) ?_
  ·
   exact ⟨_, [⟨b11, 0, [.int .u64 0, .int .u64 0], 2⟩], rfl, rfl, ⟨_, rfl, List.mem_cons_self ..⟩⟩
  refine MOps.last ?_
  exact MOps.nil
 ·
  intro e_ Y_ hp_ hs_
  obtain ⟨b11, hb11, hm11⟩ := (show (MAl ([.int .u64 0, .int .u64 0]) 2) (e_ 11) Y_ from hp_ 33 11 ze zr)
  refine T1.known (tr := [(4, _), (5, _), (6, _), (8, _), (9, _), (10, _), (11, _), (83, _)]) (.cons ((hs_ 4 zr).trans z_C) (.cons ((hs_ 5 zr).trans z_C) (.cons ((hs_ 6 zr).trans z_C) (.cons ((hs_ 8 zr).trans z_C) (.cons ((hs_ 9 zr).trans z_C) (.cons ((hs_ 10 zr).trans z_C) (.cons hb11 (.cons (hp_ 32 83 ze zr) .nil)))))))) ?_
  refine T1.sub ?_ (List.Sublist.append (List.singleton_sublist.2 hm11) (List.Sublist.refl _))
  dsimp only [List.cons_append, List.nil_append]
  refine T1.storeN rfl rfl sz_154 (ones rfl) z_H zr zr ?_
  refine T.seq (T.drawM (FL [zp b2 0, zp b2 0, zp b2 0, MV (w64 ((x).a)), zp b3 0, zp b3 0, zp b3 1, MV (w64 ((y).b)), MV (wdV (Wd.ofN (((x).a).toNat * ((y).b).toNat))), zp b2 0, zp b2 0, zp b2 1, MV (w64 ((x).b)), zp b3 0, zp b3 0, zp b3 0, MV (w64 ((y).a)), MV (wdV (Wd.ofN (((x).a).toNat * ((y).b).toNat + ((x).b).toNat * ((y).a).toNat))), MV (w64 (19#64 * x.c)), zp b3 0, zp b3 0, zp b3 4, MV (w64 ((y).e)), MV (wdV (Wd.ofN (((x).a).toNat * ((y).b).toNat + ((x).b).toNat * ((y).a).toNat + (19#64 * x.c).toNat * ((y).e).toNat))), MV (w64 (19#64 * x.d)), zp b3 0, zp b3 0, zp b3 3, MV (w64 ((y).d)), MV (wdV (Wd.ofN (((x).a).toNat * ((y).b).toNat + ((x).b).toNat * ((y).a).toNat + (19#64 * x.c).toNat * ((y).e).toNat + (19#64 * x.d).toNat * ((y).d).toNat))), MV (w64 (19#64 * x.e)), zp b3 0, zp b3 0, zp b3 2, MV (w64 ((y).c)), MV (wdV (Wd.ofN (((x).a).toNat * ((y).b).toNat + ((x).b).toNat * ((y).a).toNat + (19#64 * x.c).toNat * ((y).e).toNat + (19#64 * x.d).toNat * ((y).d).toNat + (19#64 * x.e).toNat * ((y).c).toNat))), MAl ([.int .u64 0, .int .u64 0]) 2, MT]) 37 mixed z_F z_F zM ?_ ?_)
  ·
   refine zm (zS 5 zE) (V1.move' z_C) ?_
   refine zm (zP 0 84 rfl zE) (V1.nilCheck rfl) ?_
   refine zm (zP 1 85 rfl zE) (V1.indexAddrA ty_80 sz_79 rfl rfl ze ze) ?_
   refine zm (zP 2 86 rfl zE) (V1.load1 one_79 rfl (.own z_A zr)) ?_
   refine zm (zS 6 zE) (V1.move' z_C) ?_
   refine zm (zP 4 88 rfl zE) (V1.nilCheck rfl) ?_
   refine zm (zP 5 89 rfl zE) (V1.indexAddrA ty_80 sz_79 rfl rfl ze ze) ?_
   refine zm (zP 6 90 rfl zE) (V1.load1 one_79 rfl (.own z_A zr)) ?_
   refine zt (zP 3 87 rfl (zP 7 91 rfl zE)) (fun _ _ => T1.call0 has_90 rfl (fun w hs => times_any ((x).a) ((y).b) w) (fun _ hv => ⟨_, [], rfl, rfl, hv⟩)) ?_
   refine zm (zS 5 zE) (V1.move' z_C) ?_
   refine zm (zP 9 93 rfl zE) (V1.nilCheck rfl) ?_
   refine zm (zP 10 94 rfl zE) (V1.indexAddrA ty_80 sz_79 rfl rfl ze ze) ?_
   refine zm (zP 11 95 rfl zE) (V1.load1 one_79 rfl (.own z_A zr)) ?_
   refine zm (zS 6 zE) (V1.move' z_C) ?_
   refine zm (zP 13 97 rfl zE) (V1.nilCheck rfl) ?_
   refine zm (zP 14 98 rfl zE) (V1.indexAddrA ty_80 sz_79 rfl rfl ze ze) ?_
   refine zm (zP 15 99 rfl zE) (V1.load1 one_79 rfl (.own z_A zr)) ?_
   refine zt (zP 8 92 rfl (zP 12 96 rfl (zP 16 100 rfl zE))) (fun _ _ => T1.call0 has_91 rfl (fun w hs => plus_any (((x).a).toNat * ((y).b).toNat) ((x).b) ((y).a) w) (fun _ hv => ⟨_, [], rfl, rfl, hv⟩)) ?_
   refine zm (zS 8 zE) (V1.move' z_C) ?_
   refine zm (zS 6 zE) (V1.move' z_C) ?_
   refine zm (zP 19 103 rfl zE) (V1.nilCheck rfl) ?_
   refine zm (zP 20 104 rfl zE) (V1.indexAddrA ty_80 sz_79 rfl rfl ze ze) ?_
   refine zm (zP 21 105 rfl zE) (V1.load1 one_79 rfl (.own z_A zr)) ?_
   refine zt (zP 17 101 rfl (zP 18 102 rfl (zP 22 106 rfl zE))) (fun _ _ => T1.call0 has_91 rfl (fun w hs => plus_any (((x).a).toNat * ((y).b).toNat + ((x).b).toNat * ((y).a).toNat) (19#64 * x.c) ((y).e) w) (fun _ hv => ⟨_, [], rfl, rfl, hv⟩)) ?_
   refine zm (zS 9 zE) (V1.move' z_C) ?_
   refine zm (zS 6 zE) (V1.move' z_C) ?_
   refine zm (zP 25 109 rfl zE) (V1.nilCheck rfl) ?_
   refine zm (zP 26 110 rfl zE) (V1.indexAddrA ty_80 sz_79 rfl rfl ze ze) ?_
   refine zm (zP 27 111 rfl zE) (V1.load1 one_79 rfl (.own z_A zr)) ?_
   refine zt (zP 23 107 rfl (zP 24 108 rfl (zP 28 112 rfl zE))) (fun _ _ => T1.call0 has_91 rfl (fun w hs => plus_any (((x).a).toNat * ((y).b).toNat + ((x).b).toNat * ((y).a).toNat + (19#64 * x.c).toNat * ((y).e).toNat) (19#64 * x.d) ((y).d) w) (fun _ hv => ⟨_, [], rfl, rfl, hv⟩)) ?_
   refine zm (zS 10 zE) (V1.move' z_C) ?_
   refine zm (zS 6 zE) (V1.move' z_C) ?_
   refine zm (zP 31 115 rfl zE) (V1.nilCheck rfl) ?_
   refine zm (zP 32 116 rfl zE) (V1.indexAddrA ty_80 sz_79 rfl rfl ze ze) ?_
   refine zm (zP 33 117 rfl zE) (V1.load1 one_79 rfl (.own z_A zr)) ?_
   refine zt (zP 29 113 rfl (zP 30 114 rfl (zP 34 118 rfl zE))) (fun _ _ => T1.call0 has_91 rfl (fun w hs => plus_any (((x).a).toNat * ((y).b).toNat + ((x).b).toNat * ((y).a).toNat + (19#64 * x.c).toNat * ((y).e).toNat + (19#64 * x.d).toNat * ((y).d).toNat) (19#64 * x.e) ((y).c) w) (fun _ hv => ⟨_, [], rfl, rfl, hv⟩)) ?_
   refine zt zE (fun e_ Y_ => T1.allocN 2 zr_154 rfl (fun b12 => ?_)) ?_
   ·
    exact ⟨_, [⟨b12, 0, [.int .u64 0, .int .u64 0], 2⟩], rfl, rfl, ⟨_, rfl, List.mem_cons_self ..⟩⟩
   refine MOps.last ?_
   exact MOps.nil
  ·
   intro e_ Y_ hp_ hs_
   obtain ⟨b12, hb12, hm12⟩ := (show (MAl ([.int .u64 0, .int .u64 0]) 2) (e_ 12) Y_ from hp_ 36 12 ze zr)
   refine T1.known (tr := [(4, _), (5, _), (6, _), (9, _), (10, _), (11, _), (12, _), (119, _)]) (.cons ((hs_ 4 zr).trans z_C) (.cons ((hs_ 5 zr).trans z_C) (.cons ((hs_ 6 zr).trans z_C) (.cons ((hs_ 9 zr).trans z_C) (.cons ((hs_ 10 zr).trans z_C) (.cons ((hs_ 11 zr).trans z_C) (.cons hb12 (.cons (hp_ 35 119 ze zr) .nil)))))))) ?_
   refine T1.sub ?_ (List.Sublist.append (List.singleton_sublist.2 hm12) (List.Sublist.refl _))
   dsimp only [List.cons_append, List.nil_append]
   refine T1.storeN rfl rfl sz_154 (ones rfl) z_H zr zr ?_
   refine T.seq (T.drawM (FL [zp b2 0, zp b2 0, zp b2 0, MV (w64 ((x).a)), zp b3 0, zp b3 0, zp b3 2, MV (w64 ((y).c)), MV (wdV (Wd.ofN (((x).a).toNat * ((y).c).toNat))), zp b2 0, zp b2 0, zp b2 1, MV (w64 ((x).b)), zp b3 0, zp b3 0, zp b3 1, MV (w64 ((y).b)), MV (wdV (Wd.ofN (((x).a).toNat * ((y).c).toNat + ((x).b).toNat * ((y).b).toNat))), zp b2 0, zp b2 0, zp b2 2, MV (w64 ((x).c)), zp b3 0, zp b3 0, zp b3 0, MV (w64 ((y).a)), MV (wdV (Wd.ofN (((x).a).toNat * ((y).c).toNat + ((x).b).toNat * ((y).b).toNat + ((x).c).toNat * ((y).a).toNat))), MV (w64 (19#64 * x.d)), zp b3 0, zp b3 0, zp b3 4, MV (w64 ((y).e)), MV (wdV (Wd.ofN (((x).a).toNat * ((y).c).toNat + ((x).b).toNat * ((y).b).toNat + ((x).c).toNat * ((y).a).toNat + (19#64 * x.d).toNat * ((y).e).toNat))), MV (w64 (19#64 * x.e)), zp b3 0, zp b3 0, zp b3 3, MV (w64 ((y).d)), MV (wdV (Wd.ofN (((x).a).toNat * ((y).c).toNat + ((x).b).toNat * ((y).b).toNat + ((x).c).toNat * ((y).a).toNat + (19#64 * x.d).toNat * ((y).e).toNat + (19#64 * x.e).toNat * ((y).d).toNat))), MAl ([.int .u64 0, .int .u64 0]) 2, MT]) 40 mixed z_F z_F zM ?_ ?_)
   ·
    refine zm (zS 5 zE) (V1.move' z_C) ?_
    refine zm (zP 0 120 rfl zE) (V1.nilCheck rfl) ?_
    refine zm (zP 1 121 rfl zE) (V1.indexAddrA ty_80 sz_79 rfl rfl ze ze) ?_
    refine zm (zP 2 122 rfl zE) (V1.load1 one_79 rfl (.own z_A zr)) ?_
    refine zm (zS 6 zE) (V1.move' z_C) ?_
    refine zm (zP 4 124 rfl zE) (V1.nilCheck rfl) ?_
    refine zm (zP 5 125 rfl zE) (V1.indexAddrA ty_80 sz_79 rfl rfl ze ze) ?_
    refine zm (zP 6 126 rfl zE) (V1.load1 one_79 rfl (.own z_A zr)) ?_
    refine zt (zP 3 123 rfl (zP 7 127 rfl zE)) (fun _ _ => T1.call0 has_90 rfl (fun w hs => times_any ((x).a) ((y).c) w) (fun _ hv => ⟨_, [], rfl, rfl, hv⟩)) ?_
    refine zm (zS 5 zE) (V1.move' z_C) ?_
    refine zm (zP 9 129 rfl zE) (V1.nilCheck rfl) ?_
    refine zm (zP 10 130 rfl zE) (V1.indexAddrA ty_80 sz_79 rfl rfl ze ze) ?_
    refine zm (zP 11 131 rfl zE) (V1.load1 one_79 rfl (.own z_A zr)) ?_
    refine zm (zS 6 zE) (V1.move' z_C) ?_
    refine zm (zP 13 133 rfl zE) (V1.nilCheck rfl) ?_
    refine zm (zP 14 134 rfl zE) (V1.indexAddrA ty_80 sz_79 rfl rfl ze ze) ?_
    refine zm (zP 15 135 rfl zE) (V1.load1 one_79 rfl (.own z_A zr)) ?_
    refine zt (zP 8 128 rfl (zP 12 132 rfl (zP 16 136 rfl zE))) (fun _ _ => T1.call0 has_91 rfl (fun w hs => plus_any (((x).a).toNat * ((y).c).toNat) ((x).b) ((y).b) w) (fun _ hv => ⟨_, [], rfl, rfl, hv⟩)) ?_
    refine zm (zS 5 zE) (V1.move' z_C) ?_
    refine zm (zP 18 138 rfl zE) (V1.nilCheck rfl) ?_
    refine zm (zP 19 139 rfl zE) (V1.indexAddrA ty_80 sz_79 rfl rfl ze ze) ?_
    refine zm (zP 20 140 rfl zE) (V1.load1 one_79 rfl (.own z_A zr)) ?_
    refine zm (zS 6 zE) (V1.move' z_C) ?_
    refine zm (zP 22 142 rfl zE) (V1.nilCheck rfl) ?_
    refine zm (zP 23 143 rfl zE) (V1.indexAddrA ty_80 sz_79 rfl rfl ze ze) ?_
    refine zm (zP 24 144 rfl zE) (V1.load1 one_79 rfl (.own z_A zr)) ?_
    refine zt (zP 17 137 rfl (zP 21 141 rfl (zP 25 145 rfl zE))) (fun _ _ => T1.call0 has_91 rfl (fun w hs => plus_any (((x).a).toNat * ((y).c).toNat + ((x).b).toNat * ((y).b).toNat) ((x).c) ((y).a) w) (fun _ hv => ⟨_, [], rfl, rfl, hv⟩)) ?_
    refine zm (zS 9 zE) (V1.move' z_C) ?_
    refine zm (zS 6 zE) (V1.move' z_C) ?_
    refine zm (zP 28 148 rfl zE) (V1.nilCheck rfl) ?_
    refine zm (zP 29 149 rfl zE) (V1.indexAddrA ty_80 sz_79 rfl rfl ze ze) ?_
    refine zm (zP 30 150 rfl zE) (V1.load1 one_79 rfl (.own z_A zr)) ?_
    refine zt (zP 26 146 rfl (zP 27 147 rfl (zP 31 151 rfl zE))) (fun _ _ => T1.call0 has_91 rfl (fun w hs => plus_any (((x).a).toNat * ((y).c).toNat + ((x).b).toNat * ((y).b).toNat + ((x).c).toNat * ((y).a).toNat) (19#64 * x.d) ((y).e) w) (fun _ hv => ⟨_, [], rfl, rfl, hv⟩)) ?_
    refine zm (zS 10 zE) (V1.move' z_C) ?_
    refine zm (zS 6 zE) (V1.move' z_C) ?_
    refine zm (zP 34 154 rfl zE) (V1.nilCheck rfl) ?_
    refine zm (zP 35 155 rfl zE) (V1.indexAddrA ty_80 sz_79 rfl rfl ze ze) ?_
    refine zm (zP 36 156 rfl zE) (V1.load1 one_79 rfl (.own z_A zr)) ?_
    refine zt (zP 32 152 rfl (zP 33 153 rfl (zP 37 157 rfl zE))) (fun _ _ => T1.call0 has_91 rfl (fun w hs => plus_any (((x).a).toNat * ((y).c).toNat + ((x).b).toNat * ((y).b).toNat + ((x).c).toNat * ((y).a).toNat + (19#64 * x.d).toNat * ((y).e).toNat) (19#64 * x.e) ((y).d) w) (fun _ hv => ⟨_, [], rfl, rfl, hv⟩)) ?_
    refine zt zE (fun e_ Y_ => T1.allocN 2 zr_154 rfl (fun b13 => ?_)) ?_
    ·
     exact ⟨_, [⟨b13, 0, [.int .u64 0, .int .u64 0], 2⟩], rfl, rfl, ⟨_, rfl, List.mem_cons_self ..⟩⟩
    refine MOps.last ?_
    exact MOps.nil
   ·
    intro e_ Y_ hp_ hs_
    obtain ⟨b13, hb13, hm13⟩ := (show (MAl ([.int .u64 0, .int .u64 0]) 2) (e_ 13) Y_ from hp_ 39 13 ze zr)
    refine T1.known (tr := [(4, _), (5, _), (6, _), (10, _), (11, _), (12, _), (13, _), (158, _)]) (.cons ((hs_ 4 zr).trans z_C) (.cons ((hs_ 5 zr).trans z_C) (.cons ((hs_ 6 zr).trans z_C) (.cons ((hs_ 10 zr).trans z_C) (.cons ((hs_ 11 zr).trans z_C) (.cons ((hs_ 12 zr).trans z_C) (.cons hb13 (.cons (hp_ 38 158 ze zr) .nil)))))))) ?_
    refine T1.sub ?_ (List.Sublist.append (List.singleton_sublist.2 hm13) (List.Sublist.refl _))
    dsimp only [List.cons_append, List.nil_append]
    refine T1.storeN rfl rfl sz_154 (ones rfl) z_H zr zr ?_
    refine T.seq (T.drawM (FL [zp b2 0, zp b2 0, zp b2 0, MV (w64 ((x).a)), zp b3 0, zp b3 0, zp b3 3, MV (w64 ((y).d)), MV (wdV (Wd.ofN (((x).a).toNat * ((y).d).toNat))), zp b2 0, zp b2 0, zp b2 1, MV (w64 ((x).b)), zp b3 0, zp b3 0, zp b3 2, MV (w64 ((y).c)), MV (wdV (Wd.ofN (((x).a).toNat * ((y).d).toNat + ((x).b).toNat * ((y).c).toNat))), zp b2 0, zp b2 0, zp b2 2, MV (w64 ((x).c)), zp b3 0, zp b3 0, zp b3 1, MV (w64 ((y).b)), MV (wdV (Wd.ofN (((x).a).toNat * ((y).d).toNat + ((x).b).toNat * ((y).c).toNat + ((x).c).toNat * ((y).b).toNat))), zp b2 0, zp b2 0, zp b2 3, MV (w64 ((x).d)), zp b3 0, zp b3 0, zp b3 0, MV (w64 ((y).a)), MV (wdV (Wd.ofN (((x).a).toNat * ((y).d).toNat + ((x).b).toNat * ((y).c).toNat + ((x).c).toNat * ((y).b).toNat + ((x).d).toNat * ((y).a).toNat))), MV (w64 (19#64 * x.e)), zp b3 0, zp b3 0, zp b3 4, MV (w64 ((y).e)), MV (wdV (Wd.ofN (((x).a).toNat * ((y).d).toNat + ((x).b).toNat * ((y).c).toNat + ((x).c).toNat * ((y).b).toNat + ((x).d).toNat * ((y).a).toNat + (19#64 * x.e).toNat * ((y).e).toNat))), MAl ([.int .u64 0, .int .u64 0]) 2, MT]) 43 mixed z_F z_F zM ?_ ?_)
    ·
     refine zm (zS 5 zE) (V1.move' z_C) ?_
     refine zm (zP 0 159 rfl zE) (V1.nilCheck rfl) ?_
     refine zm (zP 1 160 rfl zE) (V1.indexAddrA ty_80 sz_79 rfl rfl ze ze) ?_
     refine zm (zP 2 161 rfl zE) (V1.load1 one_79 rfl (.own z_A zr)) ?_
     refine zm (zS 6 zE) (V1.move' z_C) ?_
     refine zm (zP 4 163 rfl zE) (V1.nilCheck rfl) ?_
     refine zm (zP 5 164 rfl zE) (V1.indexAddrA ty_80 sz_79 rfl rfl ze ze) ?_
     refine zm (zP 6 165 rfl zE) (V1.load1 one_79 rfl (.own z_A zr)) ?_
     refine zt (zP 3 162 rfl (zP 7 166 rfl zE)) (fun _ _ => T1.call0 has_90 rfl (fun w hs => times_any ((x).a) ((y).d) w) (fun _ hv => ⟨_, [], rfl, rfl, hv⟩)) ?_
     refine zm (zS 5 zE) (V1.move' z_C) ?_
     refine zm (zP 9 168 rfl zE) (V1.nilCheck rfl) ?_
     refine zm (zP 10 169 rfl zE) (V1.indexAddrA ty_80 sz_79 rfl rfl ze ze) ?_
     refine zm (zP 11 170 rfl zE) (V1.load1 one_79 rfl (.own z_A zr)) ?_
     refine zm (zS 6 zE) (V1.move' z_C) ?_
     refine zm (zP 13 172 rfl zE) (V1.nilCheck rfl) ?_
     refine zm (zP 14 173 rfl zE) (V1.indexAddrA ty_80 sz_79 rfl rfl ze ze) ?_
     refine zm (zP 15 174 rfl zE) (V1.load1 one_79 rfl (.own z_A zr)) ?_
     refine zt (zP 8 167 rfl (zP 12 171 rfl (zP 16 175 rfl zE))) (fun _ _ => T1.call0 has_91 rfl (fun w hs => plus_any (((x).a).toNat * ((y).d).toNat) ((x).b) ((y).c) w) (fun _ hv => ⟨_, [], rfl, rfl, hv⟩)) ?_
     refine zm (zS 5 zE) (V1.move' z_C) ?_
     refine zm (zP 18 177 rfl zE) (V1.nilCheck rfl) ?_
     refine zm (zP 19 178 rfl zE) (V1.indexAddrA ty_80 sz_79 rfl rfl ze ze) ?_
     refine zm (zP 20 179 rfl zE) (V1.load1 one_79 rfl (.own z_A zr)) ?_
     refine zm (zS 6 zE) (V1.move' z_C) ?_
     refine zm (zP 22 181 rfl zE) (V1.nilCheck rfl) ?_
     refine zm (zP 23 182 rfl zE) (V1.indexAddrA ty_80 sz_79 rfl rfl ze ze) ?_
     refine zm (zP 24 183 rfl zE) (V1.load1 one_79 rfl (.own z_A zr)) ?_
     refine zt (zP 17 176 rfl (zP 21 180 rfl (zP 25 184 rfl zE))) (fun _ _ => T1.call0 has_91 rfl (fun w hs => plus_any (((x).a).toNat * ((y).d).toNat + ((x).b).toNat * ((y).c).toNat) ((x).c) ((y).b) w) (fun _ hv => ⟨_, [], rfl, rfl, hv⟩)) ?_
     refine zm (zS 5 zE) (V1.move' z_C) ?_
     refine zm (zP 27 186 rfl zE) (V1.nilCheck rfl) ?_
     refine zm (zP 28 187 rfl zE) (V1.indexAddrA ty_80 sz_79 rfl rfl ze ze) ?_
     refine zm (zP 29 188 rfl zE) (V1.load1 one_79 rfl (.own z_A zr)) ?_
     refine zm (zS 6 zE) (V1.move' z_C) ?_
     refine zm (zP 31 190 rfl zE) (V1.nilCheck rfl) ?_
     refine zm (zP 32 191 rfl zE) (V1.indexAddrA ty_80 sz_79 rfl rfl ze ze) ?_
     refine zm (zP 33 192 rfl zE) (V1.load1 one_79 rfl (.own z_A zr)) ?_
     refine zt (zP 26 185 rfl (zP 30 189 rfl (zP 34 193 rfl zE))) (fun _ _ => T1.call0 has_91 rfl (fun w hs => plus_any (((x).a).toNat * ((y).d).toNat + ((x).b).toNat * ((y).c).toNat + ((x).c).toNat * ((y).b).toNat) ((x).d) ((y).a) w) (fun _ hv => ⟨_, [], rfl, rfl, hv⟩)) ?_
     refine zm (zS 10 zE) (V1.move' z_C) ?_
     refine zm (zS 6 zE) (V1.move' z_C) ?_
     refine zm (zP 37 196 rfl zE) (V1.nilCheck rfl) ?_
     refine zm (zP 38 197 rfl zE) (V1.indexAddrA ty_80 sz_79 rfl rfl ze ze) ?_
     refine zm (zP 39 198 rfl zE) (V1.load1 one_79 rfl (.own z_A zr)) ?_
     refine zt (zP 35 194 rfl (zP 36 195 rfl (zP 40 199 rfl zE))) (fun _ _ => T1.call0 has_91 rfl (fun w hs => plus_any (((x).a).toNat * ((y).d).toNat + ((x).b).toNat * ((y).c).toNat + ((x).c).toNat * ((y).b).toNat + ((x).d).toNat * ((y).a).toNat) (19#64 * x.e) ((y).e) w) (fun _ hv => ⟨_, [], rfl, rfl, hv⟩)) ?_
     refine zt zE (fun e_ Y_ => T1.allocN 2 zr_154 rfl (fun b14 => ?_)) ?_
     ·
      exact ⟨_, [⟨b14, 0, [.int .u64 0, .int .u64 0], 2⟩], rfl, rfl, ⟨_, rfl, List.mem_cons_self ..⟩⟩
     refine MOps.last ?_
     exact MOps.nil
    ·
     intro e_ Y_ hp_ hs_
     obtain ⟨b14, hb14, hm14⟩ := (show (MAl ([.int .u64 0, .int .u64 0]) 2) (e_ 14) Y_ from hp_ 42 14 ze zr)
     refine T1.known (tr := [(4, _), (5, _), (6, _), (11, _), (12, _), (13, _), (14, _), (200, _)]) (.cons ((hs_ 4 zr).trans z_C) (.cons ((hs_ 5 zr).trans z_C) (.cons ((hs_ 6 zr).trans z_C) (.cons ((hs_ 11 zr).trans z_C) (.cons ((hs_ 12 zr).trans z_C) (.cons ((hs_ 13 zr).trans z_C) (.cons hb14 (.cons (hp_ 41 200 ze zr) .nil)))))))) ?_
     refine T1.sub ?_ (List.Sublist.append (List.singleton_sublist.2 hm14) (List.Sublist.refl _))
     dsimp only [List.cons_append, List.nil_append]
     refine T1.storeN rfl rfl sz_154 (ones rfl) z_H zr zr ?_
     refine T.seq (T.drawM (FL [zp b2 0, zp b2 0, zp b2 0, MV (w64 ((x).a)), zp b3 0, zp b3 0, zp b3 4, MV (w64 ((y).e)), MV (wdV (Wd.ofN (((x).a).toNat * ((y).e).toNat))), zp b2 0, zp b2 0, zp b2 1, MV (w64 ((x).b)), zp b3 0, zp b3 0, zp b3 3, MV (w64 ((y).d)), MV (wdV (Wd.ofN (((x).a).toNat * ((y).e).toNat + ((x).b).toNat * ((y).d).toNat))), zp b2 0, zp b2 0, zp b2 2, MV (w64 ((x).c)), zp b3 0, zp b3 0, zp b3 2, MV (w64 ((y).c)), MV (wdV (Wd.ofN (((x).a).toNat * ((y).e).toNat + ((x).b).toNat * ((y).d).toNat + ((x).c).toNat * ((y).c).toNat))), zp b2 0, zp b2 0, zp b2 3, MV (w64 ((x).d)), zp b3 0, zp b3 0, zp b3 1, MV (w64 ((y).b)), MV (wdV (Wd.ofN (((x).a).toNat * ((y).e).toNat + ((x).b).toNat * ((y).d).toNat + ((x).c).toNat * ((y).c).toNat + ((x).d).toNat * ((y).b).toNat))), zp b2 0, zp b2 0, zp b2 4, MV (w64 ((x).e)), zp b3 0, zp b3 0, zp b3 0, MV (w64 ((y).a)), MV (wdV (Wd.ofN (((x).a).toNat * ((y).e).toNat + ((x).b).toNat * ((y).d).toNat + ((x).c).toNat * ((y).c).toNat + ((x).d).toNat * ((y).b).toNat + ((x).e).toNat * ((y).a).toNat))), MAl ([.int .u64 0, .int .u64 0]) 2, MT]) 46 mixed z_F z_F zM ?_ ?_)
     ·
      refine zm (zS 5 zE) (V1.move' z_C) ?_
      refine zm (zP 0 201 rfl zE) (V1.nilCheck rfl) ?_
      refine zm (zP 1 202 rfl zE) (V1.indexAddrA ty_80 sz_79 rfl rfl ze ze) ?_
      refine zm (zP 2 203 rfl zE) (V1.load1 one_79 rfl (.own z_A zr)) ?_
      refine zm (zS 6 zE) (V1.move' z_C) ?_
      refine zm (zP 4 205 rfl zE) (V1.nilCheck rfl) ?_
      refine zm (zP 5 206 rfl zE) (V1.indexAddrA ty_80 sz_79 rfl rfl ze ze) ?_
      refine zm (zP 6 207 rfl zE) (V1.load1 one_79 rfl (.own z_A zr)) ?_
      refine zt (zP 3 204 rfl (zP 7 208 rfl zE)) (fun _ _ => T1.call0 has_90 rfl (fun w hs => times_any ((x).a) ((y).e) w) (fun _ hv => ⟨_, [], rfl, rfl, hv⟩)) ?_
      refine zm (zS 5 zE) (V1.move' z_C) ?_
      refine zm (zP 9 210 rfl zE) (V1.nilCheck rfl) ?_
      refine zm (zP 10 211 rfl zE) (V1.indexAddrA ty_80 sz_79 rfl rfl ze ze) ?_
      refine zm (zP 11 212 rfl zE) (V1.load1 one_79 rfl (.own z_A zr)) ?_
      refine zm (zS 6 zE) (V1.move' z_C) ?_
      refine zm (zP 13 214 rfl zE) (V1.nilCheck rfl) ?_
      refine zm (zP 14 215 rfl zE) (V1.indexAddrA ty_80 sz_79 rfl rfl ze ze) ?_
      refine zm (zP 15 216 rfl zE) (V1.load1 one_79 rfl (.own z_A zr)) ?_
      refine zt (zP 8 209 rfl (zP 12 213 rfl (zP 16 217 rfl zE))) (fun _ _ => T1.call0 has_91 rfl (fun w hs => plus_any (((x).a).toNat * ((y).e).toNat) ((x).b) ((y).d) w) (fun _ hv => ⟨_, [], rfl, rfl, hv⟩)) ?_
      refine zm (zS 5 zE) (V1.move' z_C) ?_
      refine zm (zP 18 219 rfl zE) (V1.nilCheck rfl) ?_
      refine zm (zP 19 220 rfl zE) (V1.indexAddrA ty_80 sz_79 rfl rfl ze ze) ?_
      refine zm (zP 20 221 rfl zE) (V1.load1 one_79 rfl (.own z_A zr)) ?_
      refine zm (zS 6 zE) (V1.move' z_C) ?_
      refine zm (zP 22 223 rfl zE) (V1.nilCheck rfl) ?_
      refine zm (zP 23 224 rfl zE) (V1.indexAddrA ty_80 sz_79 rfl rfl ze ze) ?_
      refine zm (zP 24 225 rfl zE) (V1.load1 one_79 rfl (.own z_A zr)) ?_
      refine zt (zP 17 218 rfl (zP 21 222 rfl (zP 25 226 rfl zE))) (fun _ _ => T1.call0 has_91 rfl (fun w hs => plus_any (((x).a).toNat * ((y).e).toNat + ((x).b).toNat * ((y).d).toNat) ((x).c) ((y).c) w) (fun _ hv => ⟨_, [], rfl, rfl, hv⟩)) ?_
      refine zm (zS 5 zE) (V1.move' z_C) ?_
      refine zm (zP 27 228 rfl zE) (V1.nilCheck rfl) ?_
      refine zm (zP 28 229 rfl zE) (V1.indexAddrA ty_80 sz_79 rfl rfl ze ze) ?_
      refine zm (zP 29 230 rfl zE) (V1.load1 one_79 rfl (.own z_A zr)) ?_
      refine zm (zS 6 zE) (V1.move' z_C) ?_
      refine zm (zP 31 232 rfl zE) (V1.nilCheck rfl) ?_
      refine zm (zP 32 233 rfl zE) (V1.indexAddrA ty_80 sz_79 rfl rfl ze ze) ?_
      refine zm (zP 33 234 rfl zE) (V1.load1 one_79 rfl (.own z_A zr)) ?_
      refine zt (zP 26 227 rfl (zP 30 231 rfl (zP 34 235 rfl zE))) (fun _ _ => T1.call0 has_91 rfl (fun w hs => plus_any (((x).a).toNat * ((y).e).toNat + ((x).b).toNat * ((y).d).toNat + ((x).c).toNat * ((y).c).toNat) ((x).d) ((y).b) w) (fun _ hv => ⟨_, [], rfl, rfl, hv⟩)) ?_
      refine zm (zS 5 zE) (V1.move' z_C) ?_
      refine zm (zP 36 237 rfl zE) (V1.nilCheck rfl) ?_
      refine zm (zP 37 238 rfl zE) (V1.indexAddrA ty_80 sz_79 rfl rfl ze ze) ?_
      refine zm (zP 38 239 rfl zE) (V1.load1 one_79 rfl (.own z_A zr)) ?_
      refine zm (zS 6 zE) (V1.move' z_C) ?_
      refine zm (zP 40 241 rfl zE) (V1.nilCheck rfl) ?_
      refine zm (zP 41 242 rfl zE) (V1.indexAddrA ty_80 sz_79 rfl rfl ze ze) ?_
      refine zm (zP 42 243 rfl zE) (V1.load1 one_79 rfl (.own z_A zr)) ?_
      refine zt (zP 35 236 rfl (zP 39 240 rfl (zP 43 244 rfl zE))) (fun _ _ => T1.call0 has_91 rfl (fun w hs => plus_any (((x).a).toNat * ((y).e).toNat + ((x).b).toNat * ((y).d).toNat + ((x).c).toNat * ((y).c).toNat + ((x).d).toNat * ((y).b).toNat) ((x).e) ((y).a) w) (fun _ hv => ⟨_, [], rfl, rfl, hv⟩)) ?_
      refine zt zE (fun e_ Y_ => T1.allocN 2 zr_154 rfl (fun b15 => ?_)) ?_
      ·
       exact ⟨_, [⟨b15, 0, [.int .u64 0, .int .u64 0], 2⟩], rfl, rfl, ⟨_, rfl, List.mem_cons_self ..⟩⟩
      refine MOps.last ?_
      exact MOps.nil
     ·
      intro e_ Y_ hp_ hs_
      obtain ⟨b15, hb15, hm15⟩ := (show (MAl ([.int .u64 0, .int .u64 0]) 2) (e_ 15) Y_ from hp_ 45 15 ze zr)
      refine T1.known (tr := [(4, _), (11, _), (12, _), (13, _), (14, _), (15, _), (245, _)]) (.cons ((hs_ 4 zr).trans z_C) (.cons ((hs_ 11 zr).trans z_C) (.cons ((hs_ 12 zr).trans z_C) (.cons ((hs_ 13 zr).trans z_C) (.cons ((hs_ 14 zr).trans z_C) (.cons hb15 (.cons (hp_ 44 245 ze zr) .nil))))))) ?_
      refine T1.sub ?_ (List.Sublist.append (List.singleton_sublist.2 hm15) (List.Sublist.refl _))
      dsimp only [List.cons_append, List.nil_append]
      refine T1.storeN rfl rfl sz_154 (ones rfl) z_H zr zr ?_
      refine zs ?_
      refine z0 (V1.loadN one_154 sz_154 rfl (RdN.whole z_A) zr) ?_
      refine zc (T1.call0 has_92 rfl (fun w hs => split_any _ w) (fun v hv => ?_))
      subst hv
      refine zs ?_
      refine z0 (V1.loadN one_154 sz_154 rfl (RdN.whole z_A) zr) ?_
      refine zc (T1.call0 has_92 rfl (fun w hs => split_any _ w) (fun v hv => ?_))
      subst hv
      refine zs ?_
      refine z0 (V1.loadN one_154 sz_154 rfl (RdN.whole z_A) zr) ?_
      refine zc (T1.call0 has_92 rfl (fun w hs => split_any _ w) (fun v hv => ?_))
      subst hv
      refine z1 ?_
      refine T.seq (T.live (l := [(4, _), (14, _), (15, _), (16, _), (17, _), (18, _), (19, _), (20, _), (21, _)]) zT (fun e_ => ?_))
      refine T.region (z0 (V1.loadN one_154 sz_154 rfl (RdN.whole z_A) zr) ?_)
      refine zc (T1.call0 has_92 rfl (fun w hs => split_any _ w) (fun v hv => ?_))
      subst hv
      refine zs ?_
      refine z0 (V1.loadN one_154 sz_154 rfl (RdN.whole z_A) zr) ?_
      refine zc (T1.call0 has_92 rfl (fun w hs => split_any _ w) (fun v hv => ?_))
      subst hv
      refine zs ?_
      refine zc (T1.call0 has_90 rfl (fun w hs => times_any 19#64 ((Wd.ofN (((x).a).toNat * ((y).e).toNat + ((x).b).toNat * ((y).d).toNat + ((x).c).toNat * ((y).c).toNat + ((x).d).toNat * ((y).b).toNat + ((x).e).toNat * ((y).a).toNat))).split.1 w) (fun v hv => ?_))
      subst hv
      refine zs ?_
      refine zc (T1.call0 has_93 rfl (fun w hs => more_any ((19#64 : BitVec 64).toNat * ((Wd.ofN (((x).a).toNat * ((y).e).toNat + ((x).b).toNat * ((y).d).toNat + ((x).c).toNat * ((y).c).toNat + ((x).d).toNat * ((y).b).toNat + ((x).e).toNat * ((y).a).toNat))).split.1.toNat) ((Wd.ofN (((x).a).toNat * ((y).a).toNat + (19#64 * x.b).toNat * ((y).e).toNat + (19#64 * x.c).toNat * ((y).d).toNat + (19#64 * x.d).toNat * ((y).c).toNat + (19#64 * x.e).toNat * ((y).b).toNat))).split.2 w) (fun v hv => ?_))
      subst hv
      refine zc (T1.allocN 2 zr_154 rfl (fun b26 => ?_))
      refine zc (T1.storeN rfl rfl sz_154 (ones rfl) z_H zr zr ?_)
      refine TL.nil ?_
      refine T.seq (T.live (l := [(4, _), (16, _), (18, _), (19, _), (20, _), (21, _), (22, _), (23, _), (25, _), (26, _)]) zT (fun e_ => ?_))
      refine T.region (z0 (V1.loadN one_154 sz_154 rfl (RdN.whole z_A) zr) ?_)
      refine zc (T1.call0 has_92 rfl (fun w hs => split_any _ w) (fun v hv => ?_))
      subst hv
      refine zs ?_
      refine zq (V1.addW u64U rfl rfl) ?_
      refine zq (V1.addW u64U rfl rfl) ?_
      refine zq (V1.addW u64U rfl rfl) ?_
      refine zq (V1.addW u64U rfl rfl) ?_
      refine z0 (V1.addW u64U rfl rfl) ?_
      refine z0 (V1.buildFA ty_80 sz_79 zr_80 (.one rfl z_C rfl (.one rfl z_C rfl (.one rfl z_C rfl (.one rfl z_C rfl (.one rfl z_C rfl .nil))))) z_I) ?_
      refine z0 (V1.buildF pl_82 zr_82 (.many rfl z_C rfl .nil) z_I) ?_
      refine zc (T1.call0 has_94 rfl (fun w hs => carried_any (x.mulRaw y) w) (fun v hv => ?_))
      subst hv
      refine zc (T1.storeN rfl rfl sz_82 (ones rfl) z_H zr zr ?_)
      refine zs ?_
      exact ⟨_, [], _, .cons (.cellN z_C one_82 sz_82 (RdN.whole z_A) (by kernel_rfl)) .nil, Take.nil, rfl, rfl⟩
end Go.Proofs.YtfjedhmffccgnaaGreatDoor.S
