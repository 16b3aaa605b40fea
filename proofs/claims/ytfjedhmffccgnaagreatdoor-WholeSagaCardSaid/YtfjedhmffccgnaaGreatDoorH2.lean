/- Two points together; a point and itself. -/
import Derived.Test.YtfjedhmffccgnaaGreatDoorF7
import Derived.Test.YtfjedhmffccgnaaGreatDoorOpsN
namespace Go.Proofs.YtfjedhmffccgnaaGreatDoor.S
set_option maxRecDepth 100000
set_option maxHeartbeats 2000000
open Go.RowKit
open Ed
theorem addF2 {x y : L5} (hx : x.norm) (hy : y.norm) : (addF [x, y]).norm ∧ (addF [x, y]).fe = x.fe + y.fe := by
 have z : zeroF.lt 1 := by unfold L5.lt zeroF; decide
 have a1 := L5.add_spec z hx.lt ze
 have a2 := L5.add_spec a1.1 hy.lt ze
 have c := L5.carried_spec (x := (zeroF.add x).add y) (by obtain ⟨h1, h2, h3, h4, h5⟩ := a2.1; exact ⟨by omega, by omega, by omega, by omega, by omega⟩)
 unfold addF sumF
 rw [lock_eq]
 refine ⟨c.1, c.2.trans ?_⟩
 show ((zeroF.add x).add y).fe = _
 rw [a2.2, a1.2, zeroF_fe]; grind
section
theorem Mul_to {x y z : L5} (h : z = mulF x y) (w : World) : Fn P 49 [feV x, feV y] w [] (fun v Y => Y = [] ∧ v = feV z) := by subst h; exact Mul_any x y w
theorem Sub_to {x y z : L5} (h : z = subF x y) (w : World) : Fn P 97 [feV x, feV y] w [] (fun v Y => Y = [] ∧ v = feV z) := by subst h; exact Sub_any x y w
theorem Add_to {z : L5} (w0 : World) (Ps : List Blk) {v : Value} (l : List L5) (hz : z = addF l) (h : RowR w0 Ps 5 v l.length (l.flatMap feC)) (hl : l.length ≤ 60) : FnV P 96 [v] w0 Ps (fun v => v = feV z) := by subst hz; exact Add_any w0 Ps l h hl
theorem Product_to {z : L5} (w0 : World) (Ps : List Blk) {v : Value} (l : List L5) (hz : z = prodF l) (h : RowR w0 Ps 5 v l.length (l.flatMap feC)) (hl : l.length ≤ 60) : FnV P 95 [v] w0 Ps (fun v => v = feV z) := by subst hz; exact Product_any w0 Ps l h hl
end
theorem plus_pt {A B : Pt crv} {p q : P4} {d a1 a2 a b1 b2 b c e g h k l x y z t : L5} (hp : PtR A p) (hq : PtR B q) (hd : d.norm ∧ d.fe = fp dN)
 (h1 : a1 = subF p.y p.x) (h2 : a2 = subF q.y q.x) (h3 : a = mulF a1 a2) (h4 : b1 = addF [p.y, p.x]) (h5 : b2 = addF [q.y, q.x]) (h6 : b = mulF b1 b2)
 (h7 : c = prodF [twoF, d, p.t, q.t]) (h8 : e = prodF [twoF, p.z, q.z]) (h9 : g = subF b a) (h10 : h = subF e c) (h11 : k = addF [e, c]) (h12 : l = addF [b, a])
 (h13 : x = mulF g h) (h14 : y = mulF k l) (h15 : z = mulF h k) (h16 : t = mulF g l) : PtR (A.add B) ⟨x, y, z, t⟩ := by
 obtain ⟨⟨px, py, pz, pt⟩, hA⟩ := hp; obtain ⟨⟨qx, qy, qz, qt⟩, hB⟩ := hq
 have s1 := subF_spec py px; rw [← h1] at s1
 have s2 := subF_spec qy qx; rw [← h2] at s2
 have s3 := mulF_spec s1.1 s2.1; rw [← h3] at s3
 have s4 := addF2 py px; rw [← h4] at s4
 have s5 := addF2 qy qx; rw [← h5] at s5
 have s6 := mulF_spec s4.1 s5.1; rw [← h6] at s6
 have s7 := prod4 twoF_norm hd.1 pt qt; rw [← h7] at s7
 have s8 := prod3 twoF_norm pz qz; rw [← h8] at s8
 have s9 := subF_spec s6.1 s3.1; rw [← h9] at s9
 have s10 := subF_spec s8.1 s7.1; rw [← h10] at s10
 have s11 := addF2 s8.1 s7.1; rw [← h11] at s11
 have s12 := addF2 s6.1 s3.1; rw [← h12] at s12
 have s13 := mulF_spec s9.1 s10.1; rw [← h13] at s13
 have s14 := mulF_spec s11.1 s12.1; rw [← h14] at s14
 have s15 := mulF_spec s10.1 s11.1; rw [← h15] at s15
 have s16 := mulF_spec s9.1 s12.1; rw [← h16] at s16
 refine ⟨⟨s13.1, s14.1, s15.1, s16.1⟩, ?_⟩
 have := Pj.plusR hA hB
 unfold P4.pj at this ⊢
 unfold Pj.plus at this
 dsimp only at this ⊢
 rw [s13.2, s14.2, s15.2, s16.2, s9.2, s10.2, s11.2, s12.2, s8.2, s7.2, s6.2, s5.2, s4.2, s3.2, s2.2, s1.2, twoF_fe, hd.2]
 exact this
theorem twice_pt {A : Pt crv} {p : P4} {a b c h s s2 e g f x y z t : L5} (hp : PtR A p)
 (h1 : a = mulF p.x p.x) (h2 : b = mulF p.y p.y) (h3 : c = prodF [twoF, p.z, p.z]) (h4 : h = addF [a, b]) (h5 : s = addF [p.x, p.y]) (h6 : s2 = mulF s s) (h7 : e = subF h s2) (h8 : g = subF a b) (h9 : f = addF [c, g])
 (h10 : x = mulF e f) (h11 : y = mulF g h) (h12 : z = mulF f g) (h13 : t = mulF e h) : PtR (A.add A) ⟨x, y, z, t⟩ := by
 obtain ⟨⟨px, py, pz, pt⟩, hA⟩ := hp
 have s1 := mulF_spec px px; rw [← h1] at s1
 have s2' := mulF_spec py py; rw [← h2] at s2'
 have s3 := prod3 twoF_norm pz pz; rw [← h3] at s3
 have s4 := addF2 s1.1 s2'.1; rw [← h4] at s4
 have s5 := addF2 px py; rw [← h5] at s5
 have s6 := mulF_spec s5.1 s5.1; rw [← h6] at s6
 have s7 := subF_spec s4.1 s6.1; rw [← h7] at s7
 have s8 := subF_spec s1.1 s2'.1; rw [← h8] at s8
 have s9 := addF2 s3.1 s8.1; rw [← h9] at s9
 have s10 := mulF_spec s7.1 s9.1; rw [← h10] at s10
 have s11 := mulF_spec s8.1 s4.1; rw [← h11] at s11
 have s12 := mulF_spec s9.1 s8.1; rw [← h12] at s12
 have s13 := mulF_spec s7.1 s4.1; rw [← h13] at s13
 refine ⟨⟨s10.1, s11.1, s12.1, s13.1⟩, ?_⟩
 have := Pj.twiceR hA
 unfold P4.pj at this ⊢
 unfold Pj.twice at this
 dsimp only at this ⊢
 rw [s10.2, s11.2, s12.2, s13.2, s9.2, s8.2, s7.2, s6.2, s5.2, s4.2, s3.2, s2'.2, s1.2, twoF_fe]
 exact this
def PtV (A : Pt crv) (v : Value) : Prop := ∃ p, v = ptV p ∧ PtR A p
theorem Pplus_any {A B : Pt crv} {p q : P4} {d : L5} (hp : PtR A p) (hq : PtR B q) (hd : d.norm ∧ d.fe = fp dN) (w : World) : Fn P 53 [ptV p, ptV q, feV d] w [] (fun v Y => Y = [] ∧ PtV (A.add B) v) := by
 obtain ⟨n1, hn1⟩ : ∃ z, z = subF p.y p.x := ⟨_, rfl⟩
 obtain ⟨n2, hn2⟩ : ∃ z, z = subF q.y q.x := ⟨_, rfl⟩
 obtain ⟨n3, hn3⟩ : ∃ z, z = mulF n1 n2 := ⟨_, rfl⟩
 obtain ⟨n4, hn4⟩ : ∃ z, z = addF [p.y, p.x] := ⟨_, rfl⟩
 obtain ⟨n5, hn5⟩ : ∃ z, z = addF [q.y, q.x] := ⟨_, rfl⟩
 obtain ⟨n6, hn6⟩ : ∃ z, z = mulF n4 n5 := ⟨_, rfl⟩
 obtain ⟨n7, hn7⟩ : ∃ z, z = prodF [twoF, d, p.t, q.t] := ⟨_, rfl⟩
 obtain ⟨n8, hn8⟩ : ∃ z, z = prodF [twoF, p.z, q.z] := ⟨_, rfl⟩
 obtain ⟨n9, hn9⟩ : ∃ z, z = subF n6 n3 := ⟨_, rfl⟩
 obtain ⟨n10, hn10⟩ : ∃ z, z = subF n8 n7 := ⟨_, rfl⟩
 obtain ⟨n11, hn11⟩ : ∃ z, z = addF [n8, n7] := ⟨_, rfl⟩
 obtain ⟨n12, hn12⟩ : ∃ z, z = addF [n6, n3] := ⟨_, rfl⟩
 obtain ⟨n13, hn13⟩ : ∃ z, z = mulF n9 n10 := ⟨_, rfl⟩
 obtain ⟨n14, hn14⟩ : ∃ z, z = mulF n11 n12 := ⟨_, rfl⟩
 obtain ⟨n15, hn15⟩ : ∃ z, z = mulF n10 n11 := ⟨_, rfl⟩
 obtain ⟨n16, hn16⟩ : ∃ z, z = mulF n9 n12 := ⟨_, rfl⟩
 refine Fn.of 81 [.cell 6 84] Go.Proofs.Tryz.func53 rfl rfl rfl rfl ?_
 refine zs ?_
 refine zc (T1.boxN (vs := ptC p) 20 rfl rfl (fun b3 => ?_))
 refine zc (T1.boxN (vs := ptC q) 20 rfl rfl (fun b4 => ?_))
 refine zc (T1.boxN 5 rfl rfl (fun b5 => ?_))
 refine zc (T1.allocN 20 zr_84 rfl (fun b6 => ?_))
 refine TL.nil ?_
 refine T.seq (T.drawM (FL [zp b3 5, MV (feV (p.y)), zp b3 0, MV (feV (p.x)), MV (feV (n1)), zp b4 5, MV (feV (q.y)), zp b4 0, MV (feV (q.x)), MV (feV (n2)), MV (feV (n3)), MAl ([.int .u64 0, .int .u64 0, .int .u64 0, .int .u64 0, .int .u64 0]) 5, MT]) 12 mixed z_F z_F zM ?_ ?_)
 ·
  refine zm (zS 3 zE) (V1.fieldAddr fl_84_1 rfl) ?_
  refine zm (zP 0 15 rfl zE) (V1.loadN (vs := feC (p.y)) one_82 sz_82 rfl (RdN.sub (o := 5) (k := 5) (cells := ptC p) z_A) rfl) ?_
  refine zm (zS 3 zE) (V1.fieldAddr fl_84_0 rfl) ?_
  refine zm (zP 2 17 rfl zE) (V1.loadN (vs := feC (p.x)) one_82 sz_82 rfl (RdN.sub (o := 0) (k := 5) (cells := ptC p) z_A) rfl) ?_
  refine zt (zP 1 16 rfl (zP 3 18 rfl zE)) (fun _ _ => T1.call0 has_97 rfl (fun w hs => Sub_to hn1 w) (fun _ hv => ⟨_, [], rfl, rfl, hv⟩)) ?_
  refine zm (zS 4 zE) (V1.fieldAddr fl_84_1 rfl) ?_
  refine zm (zP 5 20 rfl zE) (V1.loadN (vs := feC (q.y)) one_82 sz_82 rfl (RdN.sub (o := 5) (k := 5) (cells := ptC q) z_A) rfl) ?_
  refine zm (zS 4 zE) (V1.fieldAddr fl_84_0 rfl) ?_
  refine zm (zP 7 22 rfl zE) (V1.loadN (vs := feC (q.x)) one_82 sz_82 rfl (RdN.sub (o := 0) (k := 5) (cells := ptC q) z_A) rfl) ?_
  refine zt (zP 6 21 rfl (zP 8 23 rfl zE)) (fun _ _ => T1.call0 has_97 rfl (fun w hs => Sub_to hn2 w) (fun _ hv => ⟨_, [], rfl, rfl, hv⟩)) ?_
  refine zt (zP 4 19 rfl (zP 9 24 rfl zE)) (fun _ _ => T1.call0 has_49 rfl (fun w hs => Mul_to hn3 w) (fun _ hv => ⟨_, [], rfl, rfl, hv⟩)) ?_
  refine zt zE (fun e_ Y_ => T1.allocN 5 zr_82 rfl (fun b7 => ?_)) ?_
  ·
   exact ⟨_, [⟨b7, 0, [.int .u64 0, .int .u64 0, .int .u64 0, .int .u64 0, .int .u64 0], 5⟩], rfl, rfl, ⟨_, rfl, List.mem_cons_self ..⟩⟩
  refine MOps.last ?_
  exact MOps.nil
 ·
  intro e_ Y_ hp_ hs_
  obtain ⟨b7, hb7, hm7⟩ := (show (MAl ([.int .u64 0, .int .u64 0, .int .u64 0, .int .u64 0, .int .u64 0]) 5) (e_ 7) Y_ from hp_ 11 7 ze zr)
  refine T1.known (tr := [(3, _), (4, _), (5, _), (6, _), (7, _), (25, _)]) (.cons ((hs_ 3 zr).trans z_C) (.cons ((hs_ 4 zr).trans z_C) (.cons ((hs_ 5 zr).trans z_C) (.cons ((hs_ 6 zr).trans z_C) (.cons hb7 (.cons (hp_ 10 25 ze zr) .nil)))))) ?_
  refine T1.sub ?_ (List.Sublist.append (List.singleton_sublist.2 hm7) (List.Sublist.refl _))
  dsimp only [List.cons_append, List.nil_append]
  refine T1.storeN rfl rfl sz_82 (ones rfl) z_H zr zr ?_
  refine T.seq (T.drawM (FL [zp b3 5, MV (feV (p.y)), zp b3 0, MV (feV (p.x)), MRowF w 2 ([p.y, p.x].flatMap feC), MV (feV (n4)), zp b4 5, MV (feV (q.y)), zp b4 0, MV (feV (q.x)), MRowF w 2 ([q.y, q.x].flatMap feC), MV (feV (n5)), MV (feV (n6)), MAl ([.int .u64 0, .int .u64 0, .int .u64 0, .int .u64 0, .int .u64 0]) 5, MT]) 14 mixed z_F z_F (FMono.at (.cons MV.mono (.cons MV.mono (.cons MV.mono (.cons MV.mono (.cons MRowF.mono (.cons MV.mono (.cons MV.mono (.cons MV.mono (.cons MV.mono (.cons MV.mono (.cons MRowF.mono (.cons MV.mono (.cons MV.mono (.cons MAl.mono (.cons MT.mono .nil)))))))))))))))) ?_ ?_)
  ·
   refine zm (zS 3 zE) (V1.fieldAddr fl_84_1 rfl) ?_
   refine zm (zP 0 26 rfl zE) (V1.loadN (vs := feC (p.y)) one_82 sz_82 rfl (RdN.sub (o := 5) (k := 5) (cells := ptC p) z_A) rfl) ?_
   refine zm (zS 3 zE) (V1.fieldAddr fl_84_0 rfl) ?_
   refine zm (zP 2 28 rfl zE) (V1.loadN (vs := feC (p.x)) one_82 sz_82 rfl (RdN.sub (o := 0) (k := 5) (cells := ptC p) z_A) rfl) ?_
   refine zt (zP 1 27 rfl (zP 3 29 rfl zE)) (fun e_ Y_ => T1.buildMany (vss := [feC (p.y), feC (p.x)]) (os := [.tmp 27, .tmp 29]) ty_187 sz_82 zr_82 ze rfl (.cons rfl (.cons rfl .nil)) rfl z_L (fun b30 => ?_)) ?_
   ·
    exact ⟨_, [⟨⟨b30, some 82⟩, 0, [p.y, p.x].flatMap feC, 2 * 5⟩], rfl, rfl, ⟨_, _, rfl, zf⟩⟩
   refine MOps.cons (fun e_ Y_ hp_ hs_ => ?_) ?_
   ·
    obtain ⟨a30, c30, h30, f30⟩ := (show (MRowF w 2 ([p.y, p.x].flatMap feC)) (e_ 30) Y_ from hp_ 4 30 zr zr)
    refine MOp.of (tr := [(30, _)]) (.cons h30 .nil) ?_
    refine T1.callV has_96 rfl rfl (Add_to w Y_ [p.y, p.x] hn4 f30 (by simp)) z_D (fun v_ hv => ?_)
    obtain rfl := hv
    exact ⟨_, [], rfl, rfl, rfl⟩
   refine zm (zS 4 zE) (V1.fieldAddr fl_84_1 rfl) ?_
   refine zm (zP 6 32 rfl zE) (V1.loadN (vs := feC (q.y)) one_82 sz_82 rfl (RdN.sub (o := 5) (k := 5) (cells := ptC q) z_A) rfl) ?_
   refine zm (zS 4 zE) (V1.fieldAddr fl_84_0 rfl) ?_
   refine zm (zP 8 34 rfl zE) (V1.loadN (vs := feC (q.x)) one_82 sz_82 rfl (RdN.sub (o := 0) (k := 5) (cells := ptC q) z_A) rfl) ?_
   refine zt (zP 7 33 rfl (zP 9 35 rfl zE)) (fun e_ Y_ => T1.buildMany (vss := [feC (q.y), feC (q.x)]) (os := [.tmp 33, .tmp 35]) ty_187 sz_82 zr_82 ze rfl (.cons rfl (.cons rfl .nil)) rfl z_L (fun b36 => ?_)) ?_
   ·
    exact ⟨_, [⟨⟨b36, some 82⟩, 0, [q.y, q.x].flatMap feC, 2 * 5⟩], rfl, rfl, ⟨_, _, rfl, zf⟩⟩
   refine MOps.cons (fun e_ Y_ hp_ hs_ => ?_) ?_
   ·
    obtain ⟨a36, c36, h36, f36⟩ := (show (MRowF w 2 ([q.y, q.x].flatMap feC)) (e_ 36) Y_ from hp_ 10 36 zr zr)
    refine MOp.of (tr := [(36, _)]) (.cons h36 .nil) ?_
    refine T1.callV has_96 rfl rfl (Add_to w Y_ [q.y, q.x] hn5 f36 (by simp)) z_D (fun v_ hv => ?_)
    obtain rfl := hv
    exact ⟨_, [], rfl, rfl, rfl⟩
   refine zt (zP 5 31 rfl (zP 11 37 rfl zE)) (fun _ _ => T1.call0 has_49 rfl (fun w hs => Mul_to hn6 w) (fun _ hv => ⟨_, [], rfl, rfl, hv⟩)) ?_
   refine zt zE (fun e_ Y_ => T1.allocN 5 zr_82 rfl (fun b8 => ?_)) ?_
   ·
    exact ⟨_, [⟨b8, 0, [.int .u64 0, .int .u64 0, .int .u64 0, .int .u64 0, .int .u64 0], 5⟩], rfl, rfl, ⟨_, rfl, List.mem_cons_self ..⟩⟩
   refine MOps.last ?_
   exact MOps.nil
  ·
   intro e_ Y_ hp_ hs_
   obtain ⟨b8, hb8, hm8⟩ := (show (MAl ([.int .u64 0, .int .u64 0, .int .u64 0, .int .u64 0, .int .u64 0]) 5) (e_ 8) Y_ from hp_ 13 8 ze zr)
   refine T1.known (tr := [(3, _), (4, _), (5, _), (6, _), (7, _), (8, _), (38, _)]) (.cons ((hs_ 3 zr).trans z_C) (.cons ((hs_ 4 zr).trans z_C) (.cons ((hs_ 5 zr).trans z_C) (.cons ((hs_ 6 zr).trans z_C) (.cons ((hs_ 7 zr).trans z_C) (.cons hb8 (.cons (hp_ 12 38 ze zr) .nil))))))) ?_
   refine T1.sub ?_ (List.Sublist.append (List.singleton_sublist.2 hm8) (List.Sublist.refl _))
   dsimp only [List.cons_append, List.nil_append]
   refine T1.storeN rfl rfl sz_82 (ones rfl) z_H zr zr ?_
   refine T.seq (T.drawM (FL [MV (feV (twoF)), MV (feV (d)), zp b3 15, MV (feV (p.t)), zp b4 15, MV (feV (q.t)), MRowF w 4 ([twoF, d, p.t, q.t].flatMap feC), MV (feV (n7)), MAl ([.int .u64 0, .int .u64 0, .int .u64 0, .int .u64 0, .int .u64 0]) 5, MT]) 9 mixed z_F z_F (FMono.at (.cons MV.mono (.cons MV.mono (.cons MV.mono (.cons MV.mono (.cons MV.mono (.cons MV.mono (.cons MRowF.mono (.cons MV.mono (.cons MAl.mono (.cons MT.mono .nil))))))))))) ?_ ?_)
   ·
    refine zt zE (fun _ _ => T1.call0 has_48 rfl (fun w hs => Small_any 2#32 w) (fun _ hv => ⟨_, [], rfl, rfl, hv⟩)) ?_
    refine zm (zS 5 zE) (V1.loadN one_82 sz_82 rfl (RdN.whole z_A) zr) ?_
    refine zm (zS 3 zE) (V1.fieldAddr fl_84_3 rfl) ?_
    refine zm (zP 2 41 rfl zE) (V1.loadN (vs := feC (p.t)) one_82 sz_82 rfl (RdN.sub (o := 15) (k := 5) (cells := ptC p) z_A) rfl) ?_
    refine zm (zS 4 zE) (V1.fieldAddr fl_84_3 rfl) ?_
    refine zm (zP 4 43 rfl zE) (V1.loadN (vs := feC (q.t)) one_82 sz_82 rfl (RdN.sub (o := 15) (k := 5) (cells := ptC q) z_A) rfl) ?_
    refine zt (zP 0 39 rfl (zP 1 40 rfl (zP 3 42 rfl (zP 5 44 rfl zE)))) (fun e_ Y_ => T1.buildMany (vss := [feC (twoF), feC (d), feC (p.t), feC (q.t)]) (os := [.tmp 39, .tmp 40, .tmp 42, .tmp 44]) ty_187 sz_82 zr_82 ze rfl (.cons rfl (.cons rfl (.cons rfl (.cons rfl .nil)))) rfl (by intro l hl; simp only [List.mem_cons, List.not_mem_nil, or_false] at hl; rcases hl with rfl | rfl | rfl | rfl <;> rfl) (fun b45 => ?_)) ?_
    ·
     exact ⟨_, [⟨⟨b45, some 82⟩, 0, [twoF, d, p.t, q.t].flatMap feC, 4 * 5⟩], rfl, rfl, ⟨_, _, rfl, zf⟩⟩
    refine MOps.cons (fun e_ Y_ hp_ hs_ => ?_) ?_
    ·
     obtain ⟨a45, c45, h45, f45⟩ := (show (MRowF w 4 ([twoF, d, p.t, q.t].flatMap feC)) (e_ 45) Y_ from hp_ 6 45 zr zr)
     refine MOp.of (tr := [(45, _)]) (.cons h45 .nil) ?_
     refine T1.callV has_95 rfl rfl (Product_to w Y_ [twoF, d, p.t, q.t] hn7 f45 (by simp)) z_D (fun v_ hv => ?_)
     obtain rfl := hv
     exact ⟨_, [], rfl, rfl, rfl⟩
    refine zt zE (fun e_ Y_ => T1.allocN 5 zr_82 rfl (fun b9 => ?_)) ?_
    ·
     exact ⟨_, [⟨b9, 0, [.int .u64 0, .int .u64 0, .int .u64 0, .int .u64 0, .int .u64 0], 5⟩], rfl, rfl, ⟨_, rfl, List.mem_cons_self ..⟩⟩
    refine MOps.last ?_
    exact MOps.nil
   ·
    intro e_ Y_ hp_ hs_
    obtain ⟨b9, hb9, hm9⟩ := (show (MAl ([.int .u64 0, .int .u64 0, .int .u64 0, .int .u64 0, .int .u64 0]) 5) (e_ 9) Y_ from hp_ 8 9 ze zr)
    refine T1.known (tr := [(3, _), (4, _), (6, _), (7, _), (8, _), (9, _), (46, _)]) (.cons ((hs_ 3 zr).trans z_C) (.cons ((hs_ 4 zr).trans z_C) (.cons ((hs_ 6 zr).trans z_C) (.cons ((hs_ 7 zr).trans z_C) (.cons ((hs_ 8 zr).trans z_C) (.cons hb9 (.cons (hp_ 7 46 ze zr) .nil))))))) ?_
    refine T1.sub ?_ (List.Sublist.append (List.singleton_sublist.2 hm9) (List.Sublist.refl _))
    dsimp only [List.cons_append, List.nil_append]
    refine T1.storeN rfl rfl sz_82 (ones rfl) z_H zr zr ?_
    refine T.seq (T.drawM (FL [MV (feV (twoF)), zp b3 10, MV (feV (p.z)), zp b4 10, MV (feV (q.z)), MRowF w 3 ([twoF, p.z, q.z].flatMap feC), MV (feV (n8)), MAl ([.int .u64 0, .int .u64 0, .int .u64 0, .int .u64 0, .int .u64 0]) 5, MT]) 8 mixed z_F z_F (FMono.at (.cons MV.mono (.cons MV.mono (.cons MV.mono (.cons MV.mono (.cons MV.mono (.cons MRowF.mono (.cons MV.mono (.cons MAl.mono (.cons MT.mono .nil)))))))))) ?_ ?_)
    ·
     refine zt zE (fun _ _ => T1.call0 has_48 rfl (fun w hs => Small_any 2#32 w) (fun _ hv => ⟨_, [], rfl, rfl, hv⟩)) ?_
     refine zm (zS 3 zE) (V1.fieldAddr fl_84_2 rfl) ?_
     refine zm (zP 1 48 rfl zE) (V1.loadN (vs := feC (p.z)) one_82 sz_82 rfl (RdN.sub (o := 10) (k := 5) (cells := ptC p) z_A) rfl) ?_
     refine zm (zS 4 zE) (V1.fieldAddr fl_84_2 rfl) ?_
     refine zm (zP 3 50 rfl zE) (V1.loadN (vs := feC (q.z)) one_82 sz_82 rfl (RdN.sub (o := 10) (k := 5) (cells := ptC q) z_A) rfl) ?_
     refine zt (zP 0 47 rfl (zP 2 49 rfl (zP 4 51 rfl zE))) (fun e_ Y_ => T1.buildMany (vss := [feC (twoF), feC (p.z), feC (q.z)]) (os := [.tmp 47, .tmp 49, .tmp 51]) ty_187 sz_82 zr_82 ze rfl (.cons rfl (.cons rfl (.cons rfl .nil))) rfl z_R (fun b52 => ?_)) ?_
     ·
      exact ⟨_, [⟨⟨b52, some 82⟩, 0, [twoF, p.z, q.z].flatMap feC, 3 * 5⟩], rfl, rfl, ⟨_, _, rfl, zf⟩⟩
     refine MOps.cons (fun e_ Y_ hp_ hs_ => ?_) ?_
     ·
      obtain ⟨a52, c52, h52, f52⟩ := (show (MRowF w 3 ([twoF, p.z, q.z].flatMap feC)) (e_ 52) Y_ from hp_ 5 52 zr zr)
      refine MOp.of (tr := [(52, _)]) (.cons h52 .nil) ?_
      refine T1.callV has_95 rfl rfl (Product_to w Y_ [twoF, p.z, q.z] hn8 f52 (by simp)) z_D (fun v_ hv => ?_)
      obtain rfl := hv
      exact ⟨_, [], rfl, rfl, rfl⟩
     refine zt zE (fun e_ Y_ => T1.allocN 5 zr_82 rfl (fun b10 => ?_)) ?_
     ·
      exact ⟨_, [⟨b10, 0, [.int .u64 0, .int .u64 0, .int .u64 0, .int .u64 0, .int .u64 0], 5⟩], rfl, rfl, ⟨_, rfl, List.mem_cons_self ..⟩⟩
     refine MOps.last ?_
     exact MOps.nil
    ·
     intro e_ Y_ hp_ hs_
     obtain ⟨b10, hb10, hm10⟩ := (show (MAl ([.int .u64 0, .int .u64 0, .int .u64 0, .int .u64 0, .int .u64 0]) 5) (e_ 10) Y_ from hp_ 7 10 ze zr)
     refine T1.known (tr := [(6, _), (7, _), (8, _), (9, _), (10, _), (53, _)]) (.cons ((hs_ 6 zr).trans z_C) (.cons ((hs_ 7 zr).trans z_C) (.cons ((hs_ 8 zr).trans z_C) (.cons ((hs_ 9 zr).trans z_C) (.cons hb10 (.cons (hp_ 6 53 ze zr) .nil)))))) ?_
     refine T1.sub ?_ (List.Sublist.append (List.singleton_sublist.2 hm10) (List.Sublist.refl _))
     dsimp only [List.cons_append, List.nil_append]
     refine T1.storeN rfl rfl sz_82 (ones rfl) z_H zr zr ?_
     refine T.seq (T.drawMT (FL [MV (feV (n6)), MV (feV (n3)), MV (feV (n9)), MV (feV (n8)), MV (feV (n7)), MV (feV (n10)), MV (feV (n8)), MV (feV (n7)), MRowF w 2 ([n8, n7].flatMap feC), MV (feV (n11)), MV (feV (n6)), MV (feV (n3)), MRowF w 2 ([n6, n3].flatMap feC), MV (feV (n12)), MAl ([.int .u64 0, .int .u64 0, .int .u64 0, .int .u64 0, .int .u64 0]) 5, MAl ([.int .u64 0, .int .u64 0, .int .u64 0, .int .u64 0, .int .u64 0]) 5, MAl ([.int .u64 0, .int .u64 0, .int .u64 0, .int .u64 0, .int .u64 0]) 5, MAl ([.int .u64 0, .int .u64 0, .int .u64 0, .int .u64 0, .int .u64 0]) 5, MT, MT, MT, MT]) (fun i => List.elem i [14, 15, 16, 17]) 18 ?_ ?_ mixed z_F z_F z_F (FMono.at (.cons MV.mono (.cons MV.mono (.cons MV.mono (.cons MV.mono (.cons MV.mono (.cons MV.mono (.cons MV.mono (.cons MV.mono (.cons MRowF.mono (.cons MV.mono (.cons MV.mono (.cons MV.mono (.cons MRowF.mono (.cons MV.mono (.cons MAl.mono (.cons MAl.mono (.cons MAl.mono (.cons MAl.mono (.cons MT.mono (.cons MT.mono (.cons MT.mono (.cons MT.mono .nil))))))))))))))))))))))) ?_ ?_)
     ·
      intro i v Y hi hf
      simp only [List.elem_eq_mem, decide_eq_true_eq, List.mem_cons, List.not_mem_nil, or_false] at hi
      rcases hi with rfl | rfl | rfl | rfl
      · obtain ⟨b, h1, h2⟩ := (show (MAl ([.int .u64 0, .int .u64 0, .int .u64 0, .int .u64 0, .int .u64 0]) 5) v Y from hf); exact ⟨b, h1, _, h2, rfl⟩
      · obtain ⟨b, h1, h2⟩ := (show (MAl ([.int .u64 0, .int .u64 0, .int .u64 0, .int .u64 0, .int .u64 0]) 5) v Y from hf); exact ⟨b, h1, _, h2, rfl⟩
      · obtain ⟨b, h1, h2⟩ := (show (MAl ([.int .u64 0, .int .u64 0, .int .u64 0, .int .u64 0, .int .u64 0]) 5) v Y from hf); exact ⟨b, h1, _, h2, rfl⟩
      · obtain ⟨b, h1, h2⟩ := (show (MAl ([.int .u64 0, .int .u64 0, .int .u64 0, .int .u64 0, .int .u64 0]) 5) v Y from hf); exact ⟨b, h1, _, h2, rfl⟩
     ·
      intro i o hi ho
      simp only [List.elem_eq_mem, decide_eq_true_eq, List.mem_cons, List.not_mem_nil, or_false] at hi
      rcases hi with rfl | rfl | rfl | rfl
      · cases ho; exact fun e Y => T1.allocN 5 zr_82 rfl (fun b => ⟨b, [⟨b, 0, [.int .u64 0, .int .u64 0, .int .u64 0, .int .u64 0, .int .u64 0], 5⟩], rfl, rfl, ⟨b, rfl, List.mem_cons_self ..⟩, _, List.mem_cons_self .., rfl⟩)
      · cases ho; exact fun e Y => T1.allocN 5 zr_82 rfl (fun b => ⟨b, [⟨b, 0, [.int .u64 0, .int .u64 0, .int .u64 0, .int .u64 0, .int .u64 0], 5⟩], rfl, rfl, ⟨b, rfl, List.mem_cons_self ..⟩, _, List.mem_cons_self .., rfl⟩)
      · cases ho; exact fun e Y => T1.allocN 5 zr_82 rfl (fun b => ⟨b, [⟨b, 0, [.int .u64 0, .int .u64 0, .int .u64 0, .int .u64 0, .int .u64 0], 5⟩], rfl, rfl, ⟨b, rfl, List.mem_cons_self ..⟩, _, List.mem_cons_self .., rfl⟩)
      · cases ho; exact fun e Y => T1.allocN 5 zr_82 rfl (fun b => ⟨b, [⟨b, 0, [.int .u64 0, .int .u64 0, .int .u64 0, .int .u64 0, .int .u64 0], 5⟩], rfl, rfl, ⟨b, rfl, List.mem_cons_self ..⟩, _, List.mem_cons_self .., rfl⟩)
     ·
      refine zm (zS 8 zE) (V1.loadN one_82 sz_82 rfl (RdN.whole z_A) zr) ?_
      refine zm (zS 7 zE) (V1.loadN one_82 sz_82 rfl (RdN.whole z_A) zr) ?_
      refine zt (zP 0 54 rfl (zP 1 55 rfl zE)) (fun _ _ => T1.call0 has_97 rfl (fun w hs => Sub_to hn9 w) (fun _ hv => ⟨_, [], rfl, rfl, hv⟩)) ?_
      refine zm (zS 10 zE) (V1.loadN one_82 sz_82 rfl (RdN.whole z_A) zr) ?_
      refine zm (zS 9 zE) (V1.loadN one_82 sz_82 rfl (RdN.whole z_A) zr) ?_
      refine zt (zP 3 57 rfl (zP 4 58 rfl zE)) (fun _ _ => T1.call0 has_97 rfl (fun w hs => Sub_to hn10 w) (fun _ hv => ⟨_, [], rfl, rfl, hv⟩)) ?_
      refine zm (zS 10 zE) (V1.loadN one_82 sz_82 rfl (RdN.whole z_A) zr) ?_
      refine zm (zS 9 zE) (V1.loadN one_82 sz_82 rfl (RdN.whole z_A) zr) ?_
      refine zt (zP 6 60 rfl (zP 7 61 rfl zE)) (fun e_ Y_ => T1.buildMany (vss := [feC (n8), feC (n7)]) (os := [.tmp 60, .tmp 61]) ty_187 sz_82 zr_82 ze rfl (.cons rfl (.cons rfl .nil)) rfl z_L (fun b62 => ?_)) ?_
      ·
       exact ⟨_, [⟨⟨b62, some 82⟩, 0, [n8, n7].flatMap feC, 2 * 5⟩], rfl, rfl, ⟨_, _, rfl, zf⟩⟩
      refine MOps.cons (fun e_ Y_ hp_ hs_ => ?_) ?_
      ·
       obtain ⟨a62, c62, h62, f62⟩ := (show (MRowF w 2 ([n8, n7].flatMap feC)) (e_ 62) Y_ from hp_ 8 62 zr zr)
       refine MOp.of (tr := [(62, _)]) (.cons h62 .nil) ?_
       refine T1.callV has_96 rfl rfl (Add_to w Y_ [n8, n7] hn11 f62 (by simp)) z_D (fun v_ hv => ?_)
       obtain rfl := hv
       exact ⟨_, [], rfl, rfl, rfl⟩
      refine zm (zS 8 zE) (V1.loadN one_82 sz_82 rfl (RdN.whole z_A) zr) ?_
      refine zm (zS 7 zE) (V1.loadN one_82 sz_82 rfl (RdN.whole z_A) zr) ?_
      refine zt (zP 10 64 rfl (zP 11 65 rfl zE)) (fun e_ Y_ => T1.buildMany (vss := [feC (n6), feC (n3)]) (os := [.tmp 64, .tmp 65]) ty_187 sz_82 zr_82 ze rfl (.cons rfl (.cons rfl .nil)) rfl z_L (fun b66 => ?_)) ?_
      ·
       exact ⟨_, [⟨⟨b66, some 82⟩, 0, [n6, n3].flatMap feC, 2 * 5⟩], rfl, rfl, ⟨_, _, rfl, zf⟩⟩
      refine MOps.cons (fun e_ Y_ hp_ hs_ => ?_) ?_
      ·
       obtain ⟨a66, c66, h66, f66⟩ := (show (MRowF w 2 ([n6, n3].flatMap feC)) (e_ 66) Y_ from hp_ 12 66 zr zr)
       refine MOp.of (tr := [(66, _)]) (.cons h66 .nil) ?_
       refine T1.callV has_96 rfl rfl (Add_to w Y_ [n6, n3] hn12 f66 (by simp)) z_D (fun v_ hv => ?_)
       obtain rfl := hv
       exact ⟨_, [], rfl, rfl, rfl⟩
      refine zt zE (fun e_ Y_ => T1.allocN 5 zr_82 rfl (fun b11 => ?_)) ?_
      ·
       exact ⟨_, [⟨b11, 0, [.int .u64 0, .int .u64 0, .int .u64 0, .int .u64 0, .int .u64 0], 5⟩], rfl, rfl, ⟨_, rfl, List.mem_cons_self ..⟩⟩
      refine zt zE (fun e_ Y_ => T1.allocN 5 zr_82 rfl (fun b12 => ?_)) ?_
      ·
       exact ⟨_, [⟨b12, 0, [.int .u64 0, .int .u64 0, .int .u64 0, .int .u64 0, .int .u64 0], 5⟩], rfl, rfl, ⟨_, rfl, List.mem_cons_self ..⟩⟩
      refine zt zE (fun e_ Y_ => T1.allocN 5 zr_82 rfl (fun b13 => ?_)) ?_
      ·
       exact ⟨_, [⟨b13, 0, [.int .u64 0, .int .u64 0, .int .u64 0, .int .u64 0, .int .u64 0], 5⟩], rfl, rfl, ⟨_, rfl, List.mem_cons_self ..⟩⟩
      refine zt zE (fun e_ Y_ => T1.allocN 5 zr_82 rfl (fun b14 => ?_)) ?_
      ·
       exact ⟨_, [⟨b14, 0, [.int .u64 0, .int .u64 0, .int .u64 0, .int .u64 0, .int .u64 0], 5⟩], rfl, rfl, ⟨_, rfl, List.mem_cons_self ..⟩⟩
      exact MOps.nil
     ·
      intro e_ Y_ hp_ hs_ hq_
      obtain ⟨b11, hb11, hm11⟩ := (show (MAl ([.int .u64 0, .int .u64 0, .int .u64 0, .int .u64 0, .int .u64 0]) 5) (e_ 11) Y_ from hp_ 14 11 ze zr)
      obtain ⟨b12, hb12, hm12⟩ := (show (MAl ([.int .u64 0, .int .u64 0, .int .u64 0, .int .u64 0, .int .u64 0]) 5) (e_ 12) Y_ from hp_ 15 12 ze zr)
      obtain ⟨b13, hb13, hm13⟩ := (show (MAl ([.int .u64 0, .int .u64 0, .int .u64 0, .int .u64 0, .int .u64 0]) 5) (e_ 13) Y_ from hp_ 16 13 ze zr)
      obtain ⟨b14, hb14, hm14⟩ := (show (MAl ([.int .u64 0, .int .u64 0, .int .u64 0, .int .u64 0, .int .u64 0]) 5) (e_ 14) Y_ from hp_ 17 14 ze zr)
      have hne_0_1 : b11 ≠ b12 := hq_ 14 15 11 12 _ _ ze rfl rfl ze ze rfl rfl hb11 hb12
      have hne_0_2 : b11 ≠ b13 := hq_ 14 16 11 13 _ _ ze rfl rfl ze ze rfl rfl hb11 hb13
      have hne_0_3 : b11 ≠ b14 := hq_ 14 17 11 14 _ _ ze rfl rfl ze ze rfl rfl hb11 hb14
      have hne_1_2 : b12 ≠ b13 := hq_ 15 16 12 13 _ _ ze rfl rfl ze ze rfl rfl hb12 hb13
      have hne_1_3 : b12 ≠ b14 := hq_ 15 17 12 14 _ _ ze rfl rfl ze ze rfl rfl hb12 hb14
      have hne_2_3 : b13 ≠ b14 := hq_ 16 17 13 14 _ _ ze rfl rfl ze ze rfl rfl hb13 hb14
      refine TX.known (tr := [(6, _), (11, _), (12, _), (13, _), (14, _), (56, _), (59, _), (63, _), (67, _)]) (.cons ((hs_ 6 zr).trans z_C) (.cons hb11 (.cons hb12 (.cons hb13 (.cons hb14 (.cons (show MV (feV (n9)) (e_ 56) Y_ from hp_ 2 56 ze zr) (.cons (show MV (feV (n10)) (e_ 59) Y_ from hp_ 5 59 ze zr) (.cons (show MV (feV (n11)) (e_ 63) Y_ from hp_ 9 63 ze zr) (.cons (show MV (feV (n12)) (e_ 67) Y_ from hp_ 13 67 ze zr) .nil))))))))) ?_
      refine TX.front (X := [⟨b11, 0, [.int .u64 0, .int .u64 0, .int .u64 0, .int .u64 0, .int .u64 0], 5⟩, ⟨b12, 0, [.int .u64 0, .int .u64 0, .int .u64 0, .int .u64 0, .int .u64 0], 5⟩, ⟨b13, 0, [.int .u64 0, .int .u64 0, .int .u64 0, .int .u64 0, .int .u64 0], 5⟩, ⟨b14, 0, [.int .u64 0, .int .u64 0, .int .u64 0, .int .u64 0, .int .u64 0], 5⟩]) (by simp [hne_0_1, hne_0_2, hne_0_3, hne_1_2, hne_1_3, hne_2_3]) (by intro B_ hB_; simp only [List.mem_cons, List.not_mem_nil, or_false] at hB_; rcases hB_ with rfl | rfl | rfl | rfl; exact hm11; exact hm12; exact hm13; exact hm14) ?_
      dsimp only [List.cons_append, List.nil_append]
      refine (show TX _ _ _ _ _ 4 _ _ _ from ?_)
      refine TX.oneU 18 z_F rfl rfl (T1.storeN rfl rfl sz_82 (ones rfl) z_H zr zr ?_)
      refine TX.oneU 19 z_F rfl rfl (T1.storeN rfl rfl sz_82 (ones rfl) z_H zr zr ?_)
      refine TX.oneU 20 z_F rfl rfl (T1.storeN rfl rfl sz_82 (ones rfl) z_H zr zr ?_)
      refine TX.oneU 21 z_F rfl rfl (T1.storeN rfl rfl sz_82 (ones rfl) z_H zr zr ?_)
      refine TX.done z_F ?_
      refine T.seq (T.drawM (FL [MV (feV (n9)), MV (feV (n10)), MV (feV (n13)), MV (feV (n11)), MV (feV (n12)), MV (feV (n14)), MV (feV (n10)), MV (feV (n11)), MV (feV (n15)), MV (feV (n9)), MV (feV (n12)), MV (feV (n16)), MV (ptV ⟨n13, n14, n15, n16⟩), MT]) 13 mixed z_F z_F zM ?_ ?_)
      ·
       refine zm (zS 11 zE) (V1.loadN one_82 sz_82 rfl (RdN.whole z_A) zr) ?_
       refine zm (zS 12 zE) (V1.loadN one_82 sz_82 rfl (RdN.whole z_A) zr) ?_
       refine zt (zP 0 68 rfl (zP 1 69 rfl zE)) (fun _ _ => T1.call0 has_49 rfl (fun w hs => Mul_to hn13 w) (fun _ hv => ⟨_, [], rfl, rfl, hv⟩)) ?_
       refine zm (zS 13 zE) (V1.loadN one_82 sz_82 rfl (RdN.whole z_A) zr) ?_
       refine zm (zS 14 zE) (V1.loadN one_82 sz_82 rfl (RdN.whole z_A) zr) ?_
       refine zt (zP 3 71 rfl (zP 4 72 rfl zE)) (fun _ _ => T1.call0 has_49 rfl (fun w hs => Mul_to hn14 w) (fun _ hv => ⟨_, [], rfl, rfl, hv⟩)) ?_
       refine zm (zS 12 zE) (V1.loadN one_82 sz_82 rfl (RdN.whole z_A) zr) ?_
       refine zm (zS 13 zE) (V1.loadN one_82 sz_82 rfl (RdN.whole z_A) zr) ?_
       refine zt (zP 6 74 rfl (zP 7 75 rfl zE)) (fun _ _ => T1.call0 has_49 rfl (fun w hs => Mul_to hn15 w) (fun _ hv => ⟨_, [], rfl, rfl, hv⟩)) ?_
       refine zm (zS 11 zE) (V1.loadN one_82 sz_82 rfl (RdN.whole z_A) zr) ?_
       refine zm (zS 14 zE) (V1.loadN one_82 sz_82 rfl (RdN.whole z_A) zr) ?_
       refine zt (zP 9 77 rfl (zP 10 78 rfl zE)) (fun _ _ => T1.call0 has_49 rfl (fun w hs => Mul_to hn16 w) (fun _ hv => ⟨_, [], rfl, rfl, hv⟩)) ?_
       refine zm (zP 2 70 rfl (zP 5 73 rfl (zP 8 76 rfl (zP 11 79 rfl zE)))) (V1.buildF pl_84 zr_84 (.many rfl z_C rfl (.many rfl z_C rfl (.many rfl z_C rfl (.many rfl z_C rfl .nil)))) z_I) ?_
       refine MOps.last ?_
       exact MOps.nil
      ·
       intro e_ Y_ hp_ hs_
       refine T1.known (tr := [(6, _), (80, _)]) (.cons ((hs_ 6 zr).trans z_C) (.cons (hp_ 12 80 ze zr) .nil)) ?_
       refine T1.storeN rfl rfl sz_84 (ones rfl) z_H zr zr ?_
       refine T.ret ?_
       exact ⟨_, [], _, .cons (.cellN (vs := ptC ⟨n13, n14, n15, n16⟩) z_C one_84 sz_84 (RdN.whole z_A) (by kernel_rfl)) .nil, Take.nil, rfl, _, rfl, plus_pt hp hq hd hn1 hn2 hn3 hn4 hn5 hn6 hn7 hn8 hn9 hn10 hn11 hn12 hn13 hn14 hn15 hn16⟩
theorem Ptwice_any {A : Pt crv} {p : P4} (hp : PtR A p) (w : World) : Fn P 52 [ptV p] w [] (fun v Y => Y = [] ∧ PtV (A.add A) v) := by
 obtain ⟨n1, hn1⟩ : ∃ z, z = mulF p.x p.x := ⟨_, rfl⟩
 obtain ⟨n2, hn2⟩ : ∃ z, z = mulF p.y p.y := ⟨_, rfl⟩
 obtain ⟨n3, hn3⟩ : ∃ z, z = prodF [twoF, p.z, p.z] := ⟨_, rfl⟩
 obtain ⟨n4, hn4⟩ : ∃ z, z = addF [n1, n2] := ⟨_, rfl⟩
 obtain ⟨n5, hn5⟩ : ∃ z, z = addF [p.x, p.y] := ⟨_, rfl⟩
 obtain ⟨n6, hn6⟩ : ∃ z, z = mulF n5 n5 := ⟨_, rfl⟩
 obtain ⟨n7, hn7⟩ : ∃ z, z = subF n4 n6 := ⟨_, rfl⟩
 obtain ⟨n8, hn8⟩ : ∃ z, z = subF n1 n2 := ⟨_, rfl⟩
 obtain ⟨n9, hn9⟩ : ∃ z, z = addF [n3, n8] := ⟨_, rfl⟩
 obtain ⟨n10, hn10⟩ : ∃ z, z = mulF n7 n9 := ⟨_, rfl⟩
 obtain ⟨n11, hn11⟩ : ∃ z, z = mulF n8 n4 := ⟨_, rfl⟩
 obtain ⟨n12, hn12⟩ : ∃ z, z = mulF n9 n8 := ⟨_, rfl⟩
 obtain ⟨n13, hn13⟩ : ∃ z, z = mulF n7 n4 := ⟨_, rfl⟩
 refine Fn.of 63 [.cell 2 84] Go.Proofs.Tryz.func52 rfl rfl rfl rfl ?_
 refine zs ?_
 refine zc (T1.boxN (vs := ptC p) 20 rfl rfl (fun b1 => ?_))
 refine zc (T1.allocN 20 zr_84 rfl (fun b2 => ?_))
 refine TL.nil ?_
 refine T.seq (T.drawMT (FL [zp b1 0, MV (feV (p.x)), zp b1 0, MV (feV (p.x)), MV (feV (n1)), zp b1 5, MV (feV (p.y)), zp b1 5, MV (feV (p.y)), MV (feV (n2)), MAl ([.int .u64 0, .int .u64 0, .int .u64 0, .int .u64 0, .int .u64 0]) 5, MAl ([.int .u64 0, .int .u64 0, .int .u64 0, .int .u64 0, .int .u64 0]) 5, MT, MT]) (fun i => List.elem i [10, 11]) 12 ?_ ?_ mixed z_F z_F z_F zM ?_ ?_)
 ·
  intro i v Y hi hf
  simp only [List.elem_eq_mem, decide_eq_true_eq, List.mem_cons, List.not_mem_nil, or_false] at hi
  rcases hi with rfl | rfl
  · obtain ⟨b, h1, h2⟩ := (show (MAl ([.int .u64 0, .int .u64 0, .int .u64 0, .int .u64 0, .int .u64 0]) 5) v Y from hf); exact ⟨b, h1, _, h2, rfl⟩
  · obtain ⟨b, h1, h2⟩ := (show (MAl ([.int .u64 0, .int .u64 0, .int .u64 0, .int .u64 0, .int .u64 0]) 5) v Y from hf); exact ⟨b, h1, _, h2, rfl⟩
 ·
  intro i o hi ho
  simp only [List.elem_eq_mem, decide_eq_true_eq, List.mem_cons, List.not_mem_nil, or_false] at hi
  rcases hi with rfl | rfl
  · cases ho; exact fun e Y => T1.allocN 5 zr_82 rfl (fun b => ⟨b, [⟨b, 0, [.int .u64 0, .int .u64 0, .int .u64 0, .int .u64 0, .int .u64 0], 5⟩], rfl, rfl, ⟨b, rfl, List.mem_cons_self ..⟩, _, List.mem_cons_self .., rfl⟩)
  · cases ho; exact fun e Y => T1.allocN 5 zr_82 rfl (fun b => ⟨b, [⟨b, 0, [.int .u64 0, .int .u64 0, .int .u64 0, .int .u64 0, .int .u64 0], 5⟩], rfl, rfl, ⟨b, rfl, List.mem_cons_self ..⟩, _, List.mem_cons_self .., rfl⟩)
 ·
  refine zm (zS 1 zE) (V1.fieldAddr fl_84_0 rfl) ?_
  refine zm (zP 0 11 rfl zE) (V1.loadN (vs := feC (p.x)) one_82 sz_82 rfl (RdN.sub (o := 0) (k := 5) (cells := ptC p) z_A) rfl) ?_
  refine zm (zS 1 zE) (V1.fieldAddr fl_84_0 rfl) ?_
  refine zm (zP 2 13 rfl zE) (V1.loadN (vs := feC (p.x)) one_82 sz_82 rfl (RdN.sub (o := 0) (k := 5) (cells := ptC p) z_A) rfl) ?_
  refine zt (zP 1 12 rfl (zP 3 14 rfl zE)) (fun _ _ => T1.call0 has_49 rfl (fun w hs => Mul_to hn1 w) (fun _ hv => ⟨_, [], rfl, rfl, hv⟩)) ?_
  refine zm (zS 1 zE) (V1.fieldAddr fl_84_1 rfl) ?_
  refine zm (zP 5 16 rfl zE) (V1.loadN (vs := feC (p.y)) one_82 sz_82 rfl (RdN.sub (o := 5) (k := 5) (cells := ptC p) z_A) rfl) ?_
  refine zm (zS 1 zE) (V1.fieldAddr fl_84_1 rfl) ?_
  refine zm (zP 7 18 rfl zE) (V1.loadN (vs := feC (p.y)) one_82 sz_82 rfl (RdN.sub (o := 5) (k := 5) (cells := ptC p) z_A) rfl) ?_
  refine zt (zP 6 17 rfl (zP 8 19 rfl zE)) (fun _ _ => T1.call0 has_49 rfl (fun w hs => Mul_to hn2 w) (fun _ hv => ⟨_, [], rfl, rfl, hv⟩)) ?_
  refine zt zE (fun e_ Y_ => T1.allocN 5 zr_82 rfl (fun b3 => ?_)) ?_
  ·
   exact ⟨_, [⟨b3, 0, [.int .u64 0, .int .u64 0, .int .u64 0, .int .u64 0, .int .u64 0], 5⟩], rfl, rfl, ⟨_, rfl, List.mem_cons_self ..⟩⟩
  refine zt zE (fun e_ Y_ => T1.allocN 5 zr_82 rfl (fun b4 => ?_)) ?_
  ·
   exact ⟨_, [⟨b4, 0, [.int .u64 0, .int .u64 0, .int .u64 0, .int .u64 0, .int .u64 0], 5⟩], rfl, rfl, ⟨_, rfl, List.mem_cons_self ..⟩⟩
  exact MOps.nil
 ·
  intro e_ Y_ hp_ hs_ hq_
  obtain ⟨b3, hb3, hm3⟩ := (show (MAl ([.int .u64 0, .int .u64 0, .int .u64 0, .int .u64 0, .int .u64 0]) 5) (e_ 3) Y_ from hp_ 10 3 ze zr)
  obtain ⟨b4, hb4, hm4⟩ := (show (MAl ([.int .u64 0, .int .u64 0, .int .u64 0, .int .u64 0, .int .u64 0]) 5) (e_ 4) Y_ from hp_ 11 4 ze zr)
  have hne_0_1 : b3 ≠ b4 := hq_ 10 11 3 4 _ _ ze rfl rfl ze ze rfl rfl hb3 hb4
  refine TX.known (tr := [(1, _), (2, _), (3, _), (4, _), (15, _), (20, _)]) (.cons ((hs_ 1 zr).trans z_C) (.cons ((hs_ 2 zr).trans z_C) (.cons hb3 (.cons hb4 (.cons (show MV (feV (n1)) (e_ 15) Y_ from hp_ 4 15 ze zr) (.cons (show MV (feV (n2)) (e_ 20) Y_ from hp_ 9 20 ze zr) .nil)))))) ?_
  refine TX.front (X := [⟨b3, 0, [.int .u64 0, .int .u64 0, .int .u64 0, .int .u64 0, .int .u64 0], 5⟩, ⟨b4, 0, [.int .u64 0, .int .u64 0, .int .u64 0, .int .u64 0, .int .u64 0], 5⟩]) (by simp [hne_0_1]) (by intro B_ hB_; simp only [List.mem_cons, List.not_mem_nil, or_false] at hB_; rcases hB_ with rfl | rfl; exact hm3; exact hm4) ?_
  dsimp only [List.cons_append, List.nil_append]
  refine (show TX _ _ _ _ _ 2 _ _ _ from ?_)
  refine TX.oneU 12 z_F rfl rfl (T1.storeN rfl rfl sz_82 (ones rfl) z_H zr zr ?_)
  refine TX.oneU 13 z_F rfl rfl (T1.storeN rfl rfl sz_82 (ones rfl) z_H zr zr ?_)
  refine TX.done z_F ?_
  refine T.seq (T.drawM (FL [MV (feV (twoF)), zp b1 10, MV (feV (p.z)), zp b1 10, MV (feV (p.z)), MRowF w 3 ([twoF, p.z, p.z].flatMap feC), MV (feV (n3)), MAl ([.int .u64 0, .int .u64 0, .int .u64 0, .int .u64 0, .int .u64 0]) 5, MT]) 8 mixed z_F z_F (FMono.at (.cons MV.mono (.cons MV.mono (.cons MV.mono (.cons MV.mono (.cons MV.mono (.cons MRowF.mono (.cons MV.mono (.cons MAl.mono (.cons MT.mono .nil)))))))))) ?_ ?_)
  ·
   refine zt zE (fun _ _ => T1.call0 has_48 rfl (fun w hs => Small_any 2#32 w) (fun _ hv => ⟨_, [], rfl, rfl, hv⟩)) ?_
   refine zm (zS 1 zE) (V1.fieldAddr fl_84_2 rfl) ?_
   refine zm (zP 1 22 rfl zE) (V1.loadN (vs := feC (p.z)) one_82 sz_82 rfl (RdN.sub (o := 10) (k := 5) (cells := ptC p) z_A) rfl) ?_
   refine zm (zS 1 zE) (V1.fieldAddr fl_84_2 rfl) ?_
   refine zm (zP 3 24 rfl zE) (V1.loadN (vs := feC (p.z)) one_82 sz_82 rfl (RdN.sub (o := 10) (k := 5) (cells := ptC p) z_A) rfl) ?_
   refine zt (zP 0 21 rfl (zP 2 23 rfl (zP 4 25 rfl zE))) (fun e_ Y_ => T1.buildMany (vss := [feC (twoF), feC (p.z), feC (p.z)]) (os := [.tmp 21, .tmp 23, .tmp 25]) ty_187 sz_82 zr_82 ze rfl (.cons rfl (.cons rfl (.cons rfl .nil))) rfl z_R (fun b26 => ?_)) ?_
   ·
    exact ⟨_, [⟨⟨b26, some 82⟩, 0, [twoF, p.z, p.z].flatMap feC, 3 * 5⟩], rfl, rfl, ⟨_, _, rfl, zf⟩⟩
   refine MOps.cons (fun e_ Y_ hp_ hs_ => ?_) ?_
   ·
    obtain ⟨a26, c26, h26, f26⟩ := (show (MRowF w 3 ([twoF, p.z, p.z].flatMap feC)) (e_ 26) Y_ from hp_ 5 26 zr zr)
    refine MOp.of (tr := [(26, _)]) (.cons h26 .nil) ?_
    refine T1.callV has_95 rfl rfl (Product_to w Y_ [twoF, p.z, p.z] hn3 f26 (by simp)) z_D (fun v_ hv => ?_)
    obtain rfl := hv
    exact ⟨_, [], rfl, rfl, rfl⟩
   refine zt zE (fun e_ Y_ => T1.allocN 5 zr_82 rfl (fun b5 => ?_)) ?_
   ·
    exact ⟨_, [⟨b5, 0, [.int .u64 0, .int .u64 0, .int .u64 0, .int .u64 0, .int .u64 0], 5⟩], rfl, rfl, ⟨_, rfl, List.mem_cons_self ..⟩⟩
   refine MOps.last ?_
   exact MOps.nil
  ·
   intro e_ Y_ hp_ hs_
   obtain ⟨b5, hb5, hm5⟩ := (show (MAl ([.int .u64 0, .int .u64 0, .int .u64 0, .int .u64 0, .int .u64 0]) 5) (e_ 5) Y_ from hp_ 7 5 ze zr)
   refine T1.known (tr := [(1, _), (2, _), (3, _), (4, _), (5, _), (27, _)]) (.cons ((hs_ 1 zr).trans z_C) (.cons ((hs_ 2 zr).trans z_C) (.cons ((hs_ 3 zr).trans z_C) (.cons ((hs_ 4 zr).trans z_C) (.cons hb5 (.cons (hp_ 6 27 ze zr) .nil)))))) ?_
   refine T1.sub ?_ (List.Sublist.append (List.singleton_sublist.2 hm5) (List.Sublist.refl _))
   dsimp only [List.cons_append, List.nil_append]
   refine T1.storeN rfl rfl sz_82 (ones rfl) z_H zr zr ?_
   refine zs ?_
   refine z0 (V1.loadN one_82 sz_82 rfl (RdN.whole z_A) zr) ?_
   refine z0 (V1.loadN one_82 sz_82 rfl (RdN.whole z_A) zr) ?_
   refine zc (T1.buildMany (vss := [feC (n1), feC (n2)]) (os := [.tmp 28, .tmp 29]) ty_187 sz_82 zr_82 ze rfl (.cons rfl (.cons rfl .nil)) rfl z_L (fun b30 => ?_))
   refine zc (T1.callV has_96 rfl rfl (Add_to w [⟨⟨b30, some 82⟩, 0, [n1, n2].flatMap feC, 2 * 5⟩] [n1, n2] hn4 (zf) (by simp)) z_D (fun v_ hv => ?_))
   obtain rfl := hv
   refine zc (T1.allocN 5 zr_82 rfl (fun b6 => ?_))
   refine zc (T1.storeN rfl rfl sz_82 (ones rfl) z_H zr zr ?_)
   refine zs ?_
   refine z0 (V1.fieldAddr fl_84_0 rfl) ?_
   refine z0 (V1.loadN (vs := feC (p.x)) one_82 sz_82 rfl (RdN.sub (o := 0) (k := 5) (cells := ptC p) z_A) rfl) ?_
   refine z0 (V1.fieldAddr fl_84_1 rfl) ?_
   refine z0 (V1.loadN (vs := feC (p.y)) one_82 sz_82 rfl (RdN.sub (o := 5) (k := 5) (cells := ptC p) z_A) rfl) ?_
   refine zc (T1.buildMany (vss := [feC (p.x), feC (p.y)]) (os := [.tmp 33, .tmp 35]) ty_187 sz_82 zr_82 ze rfl (.cons rfl (.cons rfl .nil)) rfl z_L (fun b36 => ?_))
   refine zc (T1.callV has_96 rfl rfl (Add_to w [⟨⟨b36, some 82⟩, 0, [p.x, p.y].flatMap feC, 2 * 5⟩] [p.x, p.y] hn5 (zf) (by simp)) z_D (fun v_ hv => ?_))
   obtain rfl := hv
   refine zc (T1.allocN 5 zr_82 rfl (fun b7 => ?_))
   refine zc (T1.storeN rfl rfl sz_82 (ones rfl) z_H zr zr ?_)
   refine TL.nil ?_
   refine T.seq (T.drawM (FL [MV (feV (n4)), MV (feV (n5)), MV (feV (n5)), MV (feV (n6)), MV (feV (n7)), MAl ([.int .u64 0, .int .u64 0, .int .u64 0, .int .u64 0, .int .u64 0]) 5, MT]) 6 mixed z_F z_F zM ?_ ?_)
   ·
    refine zm (zS 6 zE) (V1.loadN one_82 sz_82 rfl (RdN.whole z_A) zr) ?_
    refine zm (zS 7 zE) (V1.loadN one_82 sz_82 rfl (RdN.whole z_A) zr) ?_
    refine zm (zS 7 zE) (V1.loadN one_82 sz_82 rfl (RdN.whole z_A) zr) ?_
    refine zt (zP 1 39 rfl (zP 2 40 rfl zE)) (fun _ _ => T1.call0 has_49 rfl (fun w hs => Mul_to hn6 w) (fun _ hv => ⟨_, [], rfl, rfl, hv⟩)) ?_
    refine zt (zP 0 38 rfl (zP 3 41 rfl zE)) (fun _ _ => T1.call0 has_97 rfl (fun w hs => Sub_to hn7 w) (fun _ hv => ⟨_, [], rfl, rfl, hv⟩)) ?_
    refine zt zE (fun e_ Y_ => T1.allocN 5 zr_82 rfl (fun b8 => ?_)) ?_
    ·
     exact ⟨_, [⟨b8, 0, [.int .u64 0, .int .u64 0, .int .u64 0, .int .u64 0, .int .u64 0], 5⟩], rfl, rfl, ⟨_, rfl, List.mem_cons_self ..⟩⟩
    refine MOps.last ?_
    exact MOps.nil
   ·
    intro e_ Y_ hp_ hs_
    obtain ⟨b8, hb8, hm8⟩ := (show (MAl ([.int .u64 0, .int .u64 0, .int .u64 0, .int .u64 0, .int .u64 0]) 5) (e_ 8) Y_ from hp_ 5 8 ze zr)
    refine T1.known (tr := [(2, _), (3, _), (4, _), (5, _), (6, _), (8, _), (42, _)]) (.cons ((hs_ 2 zr).trans z_C) (.cons ((hs_ 3 zr).trans z_C) (.cons ((hs_ 4 zr).trans z_C) (.cons ((hs_ 5 zr).trans z_C) (.cons ((hs_ 6 zr).trans z_C) (.cons hb8 (.cons (hp_ 4 42 ze zr) .nil))))))) ?_
    refine T1.sub ?_ (List.Sublist.append (List.singleton_sublist.2 hm8) (List.Sublist.refl _))
    dsimp only [List.cons_append, List.nil_append]
    refine T1.storeN rfl rfl sz_82 (ones rfl) z_H zr zr ?_
    refine zs ?_
    refine z0 (V1.loadN one_82 sz_82 rfl (RdN.whole z_A) zr) ?_
    refine z0 (V1.loadN one_82 sz_82 rfl (RdN.whole z_A) zr) ?_
    refine zc (T1.call0 has_97 rfl (fun w hs => Sub_to hn8 w) (fun v hv => ?_))
    subst hv
    refine zc (T1.allocN 5 zr_82 rfl (fun b9 => ?_))
    refine zc (T1.storeN rfl rfl sz_82 (ones rfl) z_H zr zr ?_)
    refine zs ?_
    refine z0 (V1.loadN one_82 sz_82 rfl (RdN.whole z_A) zr) ?_
    refine z0 (V1.loadN one_82 sz_82 rfl (RdN.whole z_A) zr) ?_
    refine zc (T1.buildMany (vss := [feC (n3), feC (n8)]) (os := [.tmp 46, .tmp 47]) ty_187 sz_82 zr_82 ze rfl (.cons rfl (.cons rfl .nil)) rfl z_L (fun b48 => ?_))
    refine zc (T1.callV has_96 rfl rfl (Add_to w [⟨⟨b48, some 82⟩, 0, [n3, n8].flatMap feC, 2 * 5⟩] [n3, n8] hn9 (zf) (by simp)) z_D (fun v_ hv => ?_))
    obtain rfl := hv
    refine zc (T1.allocN 5 zr_82 rfl (fun b10 => ?_))
    refine zc (T1.storeN rfl rfl sz_82 (ones rfl) z_H zr zr ?_)
    refine TL.nil ?_
    refine T.seq (T.drawM (FL [MV (feV (n7)), MV (feV (n9)), MV (feV (n10)), MV (feV (n8)), MV (feV (n4)), MV (feV (n11)), MV (feV (n9)), MV (feV (n8)), MV (feV (n12)), MV (feV (n7)), MV (feV (n4)), MV (feV (n13)), MV (ptV ⟨n10, n11, n12, n13⟩), MT]) 13 mixed z_F z_F zM ?_ ?_)
    ·
     refine zm (zS 8 zE) (V1.loadN one_82 sz_82 rfl (RdN.whole z_A) zr) ?_
     refine zm (zS 10 zE) (V1.loadN one_82 sz_82 rfl (RdN.whole z_A) zr) ?_
     refine zt (zP 0 50 rfl (zP 1 51 rfl zE)) (fun _ _ => T1.call0 has_49 rfl (fun w hs => Mul_to hn10 w) (fun _ hv => ⟨_, [], rfl, rfl, hv⟩)) ?_
     refine zm (zS 9 zE) (V1.loadN one_82 sz_82 rfl (RdN.whole z_A) zr) ?_
     refine zm (zS 6 zE) (V1.loadN one_82 sz_82 rfl (RdN.whole z_A) zr) ?_
     refine zt (zP 3 53 rfl (zP 4 54 rfl zE)) (fun _ _ => T1.call0 has_49 rfl (fun w hs => Mul_to hn11 w) (fun _ hv => ⟨_, [], rfl, rfl, hv⟩)) ?_
     refine zm (zS 10 zE) (V1.loadN one_82 sz_82 rfl (RdN.whole z_A) zr) ?_
     refine zm (zS 9 zE) (V1.loadN one_82 sz_82 rfl (RdN.whole z_A) zr) ?_
     refine zt (zP 6 56 rfl (zP 7 57 rfl zE)) (fun _ _ => T1.call0 has_49 rfl (fun w hs => Mul_to hn12 w) (fun _ hv => ⟨_, [], rfl, rfl, hv⟩)) ?_
     refine zm (zS 8 zE) (V1.loadN one_82 sz_82 rfl (RdN.whole z_A) zr) ?_
     refine zm (zS 6 zE) (V1.loadN one_82 sz_82 rfl (RdN.whole z_A) zr) ?_
     refine zt (zP 9 59 rfl (zP 10 60 rfl zE)) (fun _ _ => T1.call0 has_49 rfl (fun w hs => Mul_to hn13 w) (fun _ hv => ⟨_, [], rfl, rfl, hv⟩)) ?_
     refine zm (zP 2 52 rfl (zP 5 55 rfl (zP 8 58 rfl (zP 11 61 rfl zE)))) (V1.buildF pl_84 zr_84 (.many rfl z_C rfl (.many rfl z_C rfl (.many rfl z_C rfl (.many rfl z_C rfl .nil)))) z_I) ?_
     refine MOps.last ?_
     exact MOps.nil
    ·
     intro e_ Y_ hp_ hs_
     refine T1.known (tr := [(2, _), (62, _)]) (.cons ((hs_ 2 zr).trans z_C) (.cons (hp_ 12 62 ze zr) .nil)) ?_
     refine T1.storeN rfl rfl sz_84 (ones rfl) z_H zr zr ?_
     refine T.ret ?_
     exact ⟨_, [], _, .cons (.cellN (vs := ptC ⟨n10, n11, n12, n13⟩) z_C one_84 sz_84 (RdN.whole z_A) (by kernel_rfl)) .nil, Take.nil, rfl, _, rfl, twice_pt hp hn1 hn2 hn3 hn4 hn5 hn6 hn7 hn8 hn9 hn10 hn11 hn12 hn13⟩
end Go.Proofs.YtfjedhmffccgnaaGreatDoor.S
