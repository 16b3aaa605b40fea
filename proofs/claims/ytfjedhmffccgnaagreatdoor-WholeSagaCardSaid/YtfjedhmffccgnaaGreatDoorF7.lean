/- The even root of a quotient. -/
import Derived.Test.YtfjedhmffccgnaaGreatDoorF5
namespace Go.Proofs.YtfjedhmffccgnaaGreatDoor.S
open Go.RowKit
open Ed
theorem prod_fold : ∀ (l : List L5) (a : L5), a.norm → (∀ x ∈ l, x.norm) → (l.foldl mulF a).norm ∧ (l.foldl mulF a).fe = l.foldl (fun e x => e * x.fe) a.fe
 | [], a, ha, _ => ⟨ha, rfl⟩
 | x :: l, a, ha, hl => by
  have m := mulF_spec ha (hl x (List.mem_cons_self ..))
  have := prod_fold l (mulF a x) m.1 (fun y hy => hl y (List.mem_cons_of_mem _ hy))
  rw [m.2] at this
  exact this
theorem prodF_spec (l : List L5) (hl : ∀ x ∈ l, x.norm) : (prodF l).norm ∧ (prodF l).fe = l.foldl (fun e x => e * x.fe) 1 := by
 have := prod_fold l oneF oneF_norm hl
 rw [oneF_fe] at this
 unfold prodF; exact this
theorem one_mul' (a : Fp) : 1 * a = a := Lean.Grind.Semiring.one_mul a
theorem prod3 {x y z : L5} (hx : x.norm) (hy : y.norm) (hz : z.norm) : (prodF [x, y, z]).norm ∧ (prodF [x, y, z]).fe = x.fe * y.fe * z.fe := by
 have := prodF_spec [x, y, z] (by simp [hx, hy, hz])
 simp only [List.foldl_cons, List.foldl_nil, one_mul'] at this
 exact this
theorem prod4 {x y z u : L5} (hx : x.norm) (hy : y.norm) (hz : z.norm) (hu : u.norm) : (prodF [x, y, z, u]).norm ∧ (prodF [x, y, z, u]).fe = x.fe * y.fe * z.fe * u.fe := by
 have := prodF_spec [x, y, z, u] (by simp [hx, hy, hz, hu])
 simp only [List.foldl_cons, List.foldl_nil, one_mul'] at this
 exact this
def MFe (e : Fp) : Value → List Blk → Prop := fun v _ => FeR e v
theorem MFe.mono {e : Fp} (v : Value) (Y Z : List Blk) (h : MFe e v Y) : MFe e v (Z ++ Y) := h
def MRowE (w0 : World) (x c : L5) (e : Fp) : Value → List Blk → Prop := fun v Y => ∃ p : L5, p.norm ∧ p.fe = e ∧ MRowF w0 3 ([x, c, p].flatMap feC) v Y
theorem MRowE.mono {w0 : World} {x c : L5} {e : Fp} (v : Value) (Y Z : List Blk) (h : MRowE w0 x c e v Y) : MRowE w0 x c e v (Z ++ Y) := by
 obtain ⟨p, h1, h2, h3⟩ := h; exact ⟨p, h1, h2, MRowF.mono v Y Z h3⟩
def RootIs (u v : Fp) (r : Value) : Prop := (∃ e z, root u v = some e ∧ r = .tuple #[feV z, .bool true] ∧ z.norm ∧ z.fe = e) ∨ (root u v = none ∧ r = .tuple #[feV zeroF, .bool false])
theorem RootIs.some {u v e : Fp} {z : L5} {r : Value} (h : root u v = some e) (hr : r = .tuple #[feV z, .bool true]) (hn : z.norm) (hf : z.fe = e) : RootIs u v r := .inl ⟨e, z, h, hr, hn, hf⟩
theorem RootIs.none {u v : Fp} {r : Value} (h : root u v = none) (hr : r = .tuple #[feV zeroF, .bool false]) : RootIs u v r := .inr ⟨h, hr⟩
theorem root_t {u v : Fp} (h : v * rootX u v * rootX u v = u) : root u v = some (rootX u v).even := by unfold root; generalize rootX u v = x at *; dsimp only; rw [if_pos h]
theorem root_i {u v : Fp} (h : ¬ v * rootX u v * rootX u v = u) (h2 : v * rootX u v * rootX u v = -u) : root u v = some (rootX u v * fp 2 ^ ((Ed.P - 1) / 4)).even := by unfold root; generalize rootX u v = x at *; dsimp only; rw [if_neg h, if_pos h2]
theorem root_n {u v : Fp} (h : ¬ v * rootX u v * rootX u v = u) (h2 : ¬ v * rootX u v * rootX u v = -u) : root u v = none := by unfold root; generalize rootX u v = x at *; dsimp only; rw [if_neg h, if_neg h2]
theorem neg_spec {x : L5} (hx : x.norm) : (subF zeroF x).norm ∧ (subF zeroF x).fe = -x.fe := by
 have := subF_spec zeroF_norm hx
 refine ⟨this.1, this.2.trans ?_⟩
 rw [zeroF_fe]; grind
def twoF : L5 := ⟨(2#32).setWidth 64, 0, 0, 0, 0⟩
theorem twoF_norm : twoF.norm := by unfold L5.norm twoF; decide
theorem twoF_fe : twoF.fe = fp 2 := by unfold L5.fe twoF; rw [five_nat]; rfl
theorem even_f {a : Fp} (h : a.odd = false) : a = a.even := (even_of h).symm
theorem even_t {a : Fp} (h : a.odd = true) : -a = a.even := (even_of' h).symm
theorem low252 : leN (leF (2 ^ 252 - 1 - (2 : UInt8).toNat)) = (Ed.P - 5) / 8 := by rw [leN_leF z_F]; decide +kernel
theorem low253 : leN (leF (2 ^ 253 - 1 - (4 : UInt8).toNat)) = (Ed.P - 1) / 4 := by rw [leN_leF z_F]; decide +kernel
set_option maxRecDepth 100000 in
set_option maxHeartbeats 1000000 in
theorem Root_any (x y : L5) (w : World) (hx : x.norm) (hy : y.norm) : Fn P 104 [feV x, feV y] w [] (fun v Y => Y = [] ∧ RootIs x.fe y.fe v) := by
 have hc := prod3 hy hy hy
 refine Fn.of 51 [.cell 4 82, .tmp 5] Go.Proofs.Tryz.func104 rfl rfl rfl rfl ?_
 refine zs ?_
 refine zc (T1.boxN 5 rfl rfl (fun b2 => ?_))
 refine zc (T1.boxN 5 rfl rfl (fun b3 => ?_))
 refine zc (T1.allocN 5 zr_82 rfl (fun b4 => zs ?_))
 refine z0 (V1.loadN one_82 sz_82 rfl (RdN.whole z_A) zr) ?_
 refine z0 (V1.loadN one_82 sz_82 rfl (RdN.whole z_A) zr) ?_
 refine z0 (V1.loadN one_82 sz_82 rfl (RdN.whole z_A) zr) ?_
 refine zc (T1.buildMany (vss := [feC y, feC y, feC y]) (os := [.tmp 9, .tmp 10, .tmp 11]) ty_187 sz_82 zr_82 ze rfl (.cons rfl (.cons rfl (.cons rfl .nil))) rfl z_R (fun b12 => ?_))
 refine zc (T1.callV has_95 rfl rfl (Product_any w [⟨⟨b12, some 82⟩, 0, [y, y, y].flatMap feC, 3 * 5⟩] [y, y, y] (zf) (by simp)) z_D (fun v_ hv => ?_))
 obtain rfl := hv
 refine zc (T1.allocN 5 zr_82 rfl (fun b6 => ?_))
 refine zc (T1.storeN rfl rfl sz_82 (ones rfl) z_H zr zr ?_)
 refine TL.nil ?_
 refine T.seq (T.drawM (FL [MV (feV x), MV (feV (prodF [y, y, y])), MV (feV x), MV (feV (prodF [y, y, y])), MV (feV (prodF [y, y, y])), MV (feV y), MRowF w 4 ([x, (prodF [y, y, y]), (prodF [y, y, y]), y].flatMap feC), MV (feV (prodF [x, (prodF [y, y, y]), (prodF [y, y, y]), y])), MV (.agg ((leF (2 ^ 252 - 1 - (2 : UInt8).toNat)).map byteV).toArray), MFe ((prodF [x, (prodF [y, y, y]), (prodF [y, y, y]), y]).fe ^ ((Ed.P - 5) / 8)), MRowE w x (prodF [y, y, y]) ((prodF [x, (prodF [y, y, y]), (prodF [y, y, y]), y]).fe ^ ((Ed.P - 5) / 8)), MFe (rootX x.fe y.fe), MAl ([.int .u64 0, .int .u64 0, .int .u64 0, .int .u64 0, .int .u64 0]) 5, MT]) 13 mixed z_F z_F (FMono.at (.cons MV.mono (.cons MV.mono (.cons MV.mono (.cons MV.mono (.cons MV.mono (.cons MV.mono (.cons MRowF.mono (.cons MV.mono (.cons MV.mono (.cons MFe.mono (.cons MRowE.mono (.cons MFe.mono (.cons MAl.mono (.cons MT.mono .nil))))))))))))))) ?_ ?_)
 ·
  refine zm (zS 2 zE) (V1.loadN one_82 sz_82 rfl (RdN.whole z_A) zr) ?_
  refine zm (zS 6 zE) (V1.loadN one_82 sz_82 rfl (RdN.whole z_A) zr) ?_
  refine zm (zS 2 zE) (V1.loadN one_82 sz_82 rfl (RdN.whole z_A) zr) ?_
  refine zm (zS 6 zE) (V1.loadN one_82 sz_82 rfl (RdN.whole z_A) zr) ?_
  refine zm (zS 6 zE) (V1.loadN one_82 sz_82 rfl (RdN.whole z_A) zr) ?_
  refine zm (zS 3 zE) (V1.loadN one_82 sz_82 rfl (RdN.whole z_A) zr) ?_
  refine zt (zP 2 16 rfl (zP 3 17 rfl (zP 4 18 rfl (zP 5 19 rfl zE)))) (fun e_ Y_ => T1.buildMany (vss := [feC x, feC (prodF [y, y, y]), feC (prodF [y, y, y]), feC y]) (os := [.tmp 16, .tmp 17, .tmp 18, .tmp 19]) ty_187 sz_82 zr_82 ze rfl (.cons rfl (.cons rfl (.cons rfl (.cons rfl .nil)))) rfl (by intro l hl; simp only [List.mem_cons, List.not_mem_nil, or_false] at hl; rcases hl with rfl | rfl | rfl | rfl <;> rfl) (fun b20 => ?_)) ?_
  ·
   exact ⟨_, [⟨⟨b20, some 82⟩, 0, [x, (prodF [y, y, y]), (prodF [y, y, y]), y].flatMap feC, 4 * 5⟩], rfl, rfl, ⟨_, _, rfl, zf⟩⟩
  refine MOps.cons (fun e_ Y_ hp_ hs_ => ?_) ?_
  ·
   obtain ⟨a20, c20, h20, f20⟩ := (show (MRowF w 4 ([x, (prodF [y, y, y]), (prodF [y, y, y]), y].flatMap feC)) (e_ 20) Y_ from hp_ 6 20 zr zr)
   refine MOp.of (tr := [(20, _)]) (.cons h20 .nil) ?_
   refine T1.callV has_95 rfl rfl (Product_any w Y_ [x, (prodF [y, y, y]), (prodF [y, y, y]), y] f20 (by simp)) z_D (fun v_ hv => ?_)
   obtain rfl := hv
   exact ⟨_, [], rfl, rfl, rfl⟩
  refine zt zE (fun _ _ => T1.call0 has_102 rfl (fun w hs => ones_any 252 2 w ze ze) (fun _ hv => ⟨_, [], rfl, rfl, hv⟩)) ?_
  refine zt (zP 7 21 rfl (zP 8 22 rfl zE)) (fun e_ Y_ => T1.call0 has_101 rfl (fun w hs => Power_any (prodF [x, (prodF [y, y, y]), (prodF [y, y, y]), y]) (leF (2 ^ 252 - 1 - (2 : UInt8).toNat)) w (prod4 hx hc.1 hc.1 hy).1 (leF_len _)) (fun v hv => ?_)) ?_
  ·
   obtain ⟨p, rfl, hpn, hpf⟩ := hv
   exact ⟨_, [], rfl, rfl, ⟨p, rfl, hpn, by rw [hpf, low252]⟩⟩
  refine MOps.cons (fun e_ Y_ hp_ hs_ => ?_) ?_
  ·
   obtain ⟨p23, h23, n23, f23⟩ := (show (MFe ((prodF [x, (prodF [y, y, y]), (prodF [y, y, y]), y]).fe ^ ((Ed.P - 5) / 8))) (e_ 23) Y_ from hp_ 9 23 zr zr)
   refine MOp.of (tr := [(14, _), (15, _), (23, _)]) (.cons (show MV (feV x) (e_ 14) Y_ from hp_ 0 14 zr zr) (.cons (show MV (feV (prodF [y, y, y])) (e_ 15) Y_ from hp_ 1 15 zr zr) (.cons h23 .nil))) ?_
   refine T1.buildMany (vss := [feC x, feC (prodF [y, y, y]), feC p23]) (os := [.tmp 14, .tmp 15, .tmp 23]) ty_187 sz_82 zr_82 ze rfl (.cons rfl (.cons rfl (.cons rfl .nil))) rfl z_R (fun b24 => ?_)
   exact ⟨_, [⟨⟨b24, some 82⟩, 0, [x, (prodF [y, y, y]), p23].flatMap feC, 3 * 5⟩], rfl, rfl, ⟨p23, n23, f23, _, _, rfl, zf⟩⟩
  refine MOps.cons (fun e_ Y_ hp_ hs_ => ?_) ?_
  ·
   obtain ⟨p24, n24, e24, a24, c24, h24, f24⟩ := (show (MRowE w x (prodF [y, y, y]) ((prodF [x, (prodF [y, y, y]), (prodF [y, y, y]), y]).fe ^ ((Ed.P - 5) / 8))) (e_ 24) Y_ from hp_ 10 24 zr zr)
   refine MOp.of (tr := [(24, _)]) (.cons h24 .nil) ?_
   refine T1.callV has_95 rfl rfl (Product_any w Y_ [x, (prodF [y, y, y]), p24] f24 (by simp)) z_D (fun v_ hv => ?_)
   obtain rfl := hv
   exact ⟨_, [], rfl, rfl, ⟨_, rfl, (prod3 hx hc.1 n24).1, by rw [(prod3 hx hc.1 n24).2, e24, (prod4 hx hc.1 hc.1 hy).2, hc.2]; rfl⟩⟩
  refine zt zE (fun e_ Y_ => T1.allocN 5 zr_82 rfl (fun b7 => ?_)) ?_
  ·
   exact ⟨_, [⟨b7, 0, [.int .u64 0, .int .u64 0, .int .u64 0, .int .u64 0, .int .u64 0], 5⟩], rfl, rfl, ⟨_, rfl, List.mem_cons_self ..⟩⟩
  refine MOps.last ?_
  exact MOps.nil
 ·
  intro e_ Y_ hp_ hs_
  obtain ⟨b7, hb7, hm7⟩ := (show (MAl ([.int .u64 0, .int .u64 0, .int .u64 0, .int .u64 0, .int .u64 0]) 5) (e_ 7) Y_ from hp_ 12 7 ze zr)
  obtain ⟨p25, h25, n25, f25⟩ := (show (MFe (rootX x.fe y.fe)) (e_ 25) Y_ from hp_ 11 25 ze zr)
  refine T1.known (tr := [(2, _), (3, _), (4, _), (7, _), (25, _)]) (.cons ((hs_ 2 zr).trans z_C) (.cons ((hs_ 3 zr).trans z_C) (.cons ((hs_ 4 zr).trans z_C) (.cons hb7 (.cons h25 .nil))))) ?_
  refine T1.sub ?_ (List.Sublist.append (List.singleton_sublist.2 hm7) (List.Sublist.refl _))
  dsimp only [List.cons_append, List.nil_append]
  refine T1.storeN rfl rfl sz_82 (ones rfl) z_H zr zr ?_
  refine zs ?_
  refine z0 (V1.loadN one_82 sz_82 rfl (RdN.whole z_A) zr) ?_
  refine z0 (V1.loadN one_82 sz_82 rfl (RdN.whole z_A) zr) ?_
  refine z0 (V1.loadN one_82 sz_82 rfl (RdN.whole z_A) zr) ?_
  refine zc (T1.buildMany (vss := [feC y, feC p25, feC p25]) (os := [.tmp 26, .tmp 27, .tmp 28]) ty_187 sz_82 zr_82 ze rfl (.cons rfl (.cons rfl (.cons rfl .nil))) rfl z_R (fun b29 => ?_))
  refine zc (T1.callV has_95 rfl rfl (Product_any w [⟨⟨b29, some 82⟩, 0, [y, p25, p25].flatMap feC, 3 * 5⟩] [y, p25, p25] (zf) (by simp)) z_D (fun v_ hv => ?_))
  obtain rfl := hv
  have hsq := prod3 hy n25 n25
  refine zc (T1.allocN 5 zr_82 rfl (fun b8 => ?_))
  refine zc (T1.storeN rfl rfl sz_82 (ones rfl) z_H zr zr ?_)
  refine zs ?_
  refine z0 (V1.loadN one_82 sz_82 rfl (RdN.whole z_A) zr) ?_
  refine z0 (V1.loadN one_82 sz_82 rfl (RdN.whole z_A) zr) ?_
  refine zc (T1.call0 has_126 rfl (fun w hs => FEqual_any (prodF [y, p25, p25]) x w hsq.1 hx) (fun v hv => ?_))
  subst hv
  have hng := neg_spec hx
  have hv : y.fe * rootX x.fe y.fe * rootX x.fe y.fe = (prodF [y, p25, p25]).fe := by rw [hsq.2, f25]
  rcases (show ((prodF [y, p25, p25]).fe = x.fe) ∨ (¬ ((prodF [y, p25, p25]).fe = x.fe) ∧ (prodF [y, p25, p25]).fe = (subF zeroF x).fe) ∨ (¬ ((prodF [y, p25, p25]).fe = x.fe) ∧ ¬ (prodF [y, p25, p25]).fe = (subF zeroF x).fe) from (Classical.em ((prodF [y, p25, p25]).fe = x.fe)).elim .inl fun h1 => (Classical.em ((prodF [y, p25, p25]).fe = (subF zeroF x).fe)).elim (fun h2 => .inr (.inl ⟨h1, h2⟩)) fun h2 => .inr (.inr ⟨h1, h2⟩)) with hq | ⟨hq, hq2⟩ | ⟨hq, hq2⟩
  ·
   rw [decide_eq_true hq]
   refine zs ?_
   refine T.cond_t rfl (zs ?_)
   refine z0 (V1.loadN one_82 sz_82 rfl (RdN.whole z_A) zr) ?_
   refine zc (T1.call0 has_58 rfl (fun w hs => Odd_any p25 w n25) (fun v hv => ?_))
   subst hv
   rcases hod : p25.fe.odd
   ·
    refine TL.nil ?_
    refine T.cond_f rfl (zs ?_)
    refine z0 (V1.loadN one_82 sz_82 rfl (RdN.whole z_A) zr) ?_
    refine zc (T1.storeN rfl rfl sz_82 (ones rfl) z_H zr zr ?_)
    refine zs ?_
    exact ⟨_, [], _, .cons (.cellN z_C one_82 sz_82 (RdN.whole z_A) (by kernel_rfl)) (.cons (.tmp z_C) .nil), Take.nil, rfl, RootIs.some (root_t (by rw [hv]; exact hq)) rfl n25 (by rw [even_f hod, f25])⟩
   ·
    refine TL.nil ?_
    refine T.cond_t rfl (T.region (z0 (V1.loadN one_82 sz_82 rfl (RdN.whole z_A) zr) ?_))
    refine zc (T1.call0 has_106 rfl (fun w hs => Neg_any p25 w) (fun v hv => ?_))
    subst hv
    refine zc (T1.storeN rfl rfl sz_82 (ones rfl) z_H zr zr ?_)
    refine TL.nil ?_
    refine T.seq (T.live (l := [(4, _), (7, _)]) zT (fun e_ => ?_))
    refine T.region (z0 (V1.loadN one_82 sz_82 rfl (RdN.whole z_A) zr) ?_)
    refine zc (T1.storeN rfl rfl sz_82 (ones rfl) z_H zr zr ?_)
    refine zs ?_
    exact ⟨_, [], _, .cons (.cellN z_C one_82 sz_82 (RdN.whole z_A) (by kernel_rfl)) (.cons (.tmp z_C) .nil), Take.nil, rfl, RootIs.some (root_t (by rw [hv]; exact hq)) rfl (neg_spec n25).1 (by rw [(neg_spec n25).2, even_t hod, f25])⟩
  ·
   rw [decide_eq_false hq]
   refine zs ?_
   refine T.cond_f rfl (T.seq (T.drawDet' mixed z_F ?_))
   refine Det.cons 0 (zO 8 zZ) (fun e_ => .inl ⟨rfl, V1.t (V1.loadN one_82 sz_82 rfl (RdN.whole z_A) zr) ⟨rfl, rfl⟩⟩) ?_
   refine Det.cons 1 (zO 2 zZ) (fun e_ => .inl ⟨rfl, V1.t (V1.loadN one_82 sz_82 rfl (RdN.whole z_A) zr) ⟨rfl, rfl⟩⟩) ?_
   refine Det.cons 2 (v := feV (subF zeroF x)) (zN 38 1 rfl zZ) (fun e_ => .inl ⟨rfl, ?_⟩) ?_
   ·
    refine T1.call0 has_106 rfl (fun w hs => Neg_any x w) (fun v hv => ?_)
    subst hv
    exact ⟨rfl, rfl⟩
   refine Det.cons 3 (v := .bool true) (zN 37 0 rfl (zN 39 2 rfl zZ)) (fun e_ => .inl ⟨rfl, ?_⟩) ?_
   ·
    refine T1.call0 has_126 rfl (fun w hs => FEqual_any (prodF [y, p25, p25]) (subF zeroF x) w hsq.1 hng.1) (fun v hv => ?_)
    rw [decide_eq_true hq2] at hv
    subst hv
    exact ⟨rfl, rfl⟩
   refine zd 4 (zN 40 3 rfl zZ) (V1.assign' z_C) ?_
   refine Det.nil 5 (zQ 4 (zQ 7 (zR 36 4 rfl zW))) (fun e_ => ?_)
   refine T.cond_t rfl (T.drawM (FL [MV (feV p25), MV (feV twoF), MV (.agg ((leF (2 ^ 253 - 1 - (4 : UInt8).toNat)).map byteV).toArray), MFe (fp 2 ^ ((Ed.P - 1) / 4)), MFe (rootX x.fe y.fe * fp 2 ^ ((Ed.P - 1) / 4)), MT]) 5 mixed z_F z_F (FMono.at (.cons MV.mono (.cons MV.mono (.cons MV.mono (.cons MFe.mono (.cons MFe.mono (.cons MT.mono .nil))))))) ?_ ?_)
   ·
    refine zm (zS 7 zE) (V1.loadN one_82 sz_82 rfl (RdN.whole z_A) zr) ?_
    refine zt zE (fun _ _ => T1.call0 has_48 rfl (fun w hs => Small_any 2#32 w) (fun _ hv => ⟨_, [], rfl, rfl, hv⟩)) ?_
    refine zt zE (fun _ _ => T1.call0 has_102 rfl (fun w hs => ones_any 253 4 w ze ze) (fun _ hv => ⟨_, [], rfl, rfl, hv⟩)) ?_
    refine zt (zP 1 42 rfl (zP 2 43 rfl zE)) (fun e_ Y_ => T1.call0 has_101 rfl (fun w hs => Power_any twoF (leF (2 ^ 253 - 1 - (4 : UInt8).toNat)) w twoF_norm (leF_len _)) (fun v hv => ?_)) ?_
    ·
     obtain ⟨p, rfl, hpn, hpf⟩ := hv
     exact ⟨_, [], rfl, rfl, ⟨p, rfl, hpn, by rw [hpf, low253, twoF_fe]⟩⟩
    refine MOps.cons (fun e_ Y_ hp_ hs_ => ?_) ?_
    ·
     obtain ⟨p44, h44, n44, f44⟩ := (show (MFe (fp 2 ^ ((Ed.P - 1) / 4))) (e_ 44) Y_ from hp_ 3 44 zr zr)
     refine MOp.of (tr := [(41, _), (44, _)]) (.cons (show MV (feV p25) (e_ 41) Y_ from hp_ 0 41 zr zr) (.cons h44 .nil)) ?_
     refine T1.call0 has_49 rfl (fun w hs => Mul_any p25 p44 w) (fun v hv => ?_)
     subst hv
     exact ⟨_, [], rfl, rfl, ⟨_, rfl, (mulF_spec n25 n44).1, by rw [(mulF_spec n25 n44).2, f25, f44]⟩⟩
    refine MOps.last ?_
    exact MOps.nil
   ·
    intro e_ Y_ hp_ hs_
    obtain ⟨p45, h45, n45, f45⟩ := (show (MFe (rootX x.fe y.fe * fp 2 ^ ((Ed.P - 1) / 4))) (e_ 45) Y_ from hp_ 4 45 ze zr)
    refine T1.known (tr := [(4, _), (7, _), (45, _)]) (.cons ((hs_ 4 zr).trans z_C) (.cons ((hs_ 7 zr).trans z_C) (.cons h45 .nil))) ?_
    refine T1.storeN rfl rfl sz_82 (ones rfl) z_H zr zr ?_
    refine zs ?_
    refine z0 (V1.loadN one_82 sz_82 rfl (RdN.whole z_A) zr) ?_
    refine zc (T1.call0 has_58 rfl (fun w hs => Odd_any p45 w n45) (fun v hv => ?_))
    subst hv
    rcases hod : p45.fe.odd
    ·
     refine TL.nil ?_
     refine T.cond_f rfl (zs ?_)
     refine z0 (V1.loadN one_82 sz_82 rfl (RdN.whole z_A) zr) ?_
     refine zc (T1.storeN rfl rfl sz_82 (ones rfl) z_H zr zr ?_)
     refine zs ?_
     exact ⟨_, [], _, .cons (.cellN z_C one_82 sz_82 (RdN.whole z_A) (by kernel_rfl)) (.cons (.tmp z_C) .nil), Take.nil, rfl, RootIs.some (root_i (by rw [hv]; exact hq) (by rw [hv, ← hng.2]; exact hq2)) rfl n45 (by rw [even_f hod, f45])⟩
    ·
     refine TL.nil ?_
     refine T.cond_t rfl (T.region (z0 (V1.loadN one_82 sz_82 rfl (RdN.whole z_A) zr) ?_))
     refine zc (T1.call0 has_106 rfl (fun w hs => Neg_any p45 w) (fun v hv => ?_))
     subst hv
     refine zc (T1.storeN rfl rfl sz_82 (ones rfl) z_H zr zr ?_)
     refine zs ?_
     refine z0 (V1.loadN one_82 sz_82 rfl (RdN.whole z_A) zr) ?_
     refine zc (T1.storeN rfl rfl sz_82 (ones rfl) z_H zr zr ?_)
     refine zs ?_
     exact ⟨_, [], _, .cons (.cellN z_C one_82 sz_82 (RdN.whole z_A) (by kernel_rfl)) (.cons (.tmp z_C) .nil), Take.nil, rfl, RootIs.some (root_i (by rw [hv]; exact hq) (by rw [hv, ← hng.2]; exact hq2)) rfl (neg_spec n45).1 (by rw [(neg_spec n45).2, even_t hod, f45])⟩
  ·
   rw [decide_eq_false hq]
   refine zs ?_
   refine T.cond_f rfl (T.seq (T.drawDet' mixed z_F ?_))
   refine Det.cons 0 (zO 8 zZ) (fun e_ => .inl ⟨rfl, V1.t (V1.loadN one_82 sz_82 rfl (RdN.whole z_A) zr) ⟨rfl, rfl⟩⟩) ?_
   refine Det.cons 1 (zO 2 zZ) (fun e_ => .inl ⟨rfl, V1.t (V1.loadN one_82 sz_82 rfl (RdN.whole z_A) zr) ⟨rfl, rfl⟩⟩) ?_
   refine Det.cons 2 (v := feV (subF zeroF x)) (zN 38 1 rfl zZ) (fun e_ => .inl ⟨rfl, ?_⟩) ?_
   ·
    refine T1.call0 has_106 rfl (fun w hs => Neg_any x w) (fun v hv => ?_)
    subst hv
    exact ⟨rfl, rfl⟩
   refine Det.cons 3 (v := .bool false) (zN 37 0 rfl (zN 39 2 rfl zZ)) (fun e_ => .inl ⟨rfl, ?_⟩) ?_
   ·
    refine T1.call0 has_126 rfl (fun w hs => FEqual_any (prodF [y, p25, p25]) (subF zeroF x) w hsq.1 hng.1) (fun v hv => ?_)
    rw [decide_eq_false hq2] at hv
    subst hv
    exact ⟨rfl, rfl⟩
   refine zd 4 (zN 40 3 rfl zZ) (V1.assign' z_C) ?_
   refine Det.nil 5 (zQ 4 (zQ 7 (zR 36 4 rfl zW))) (fun e_ => ?_)
   refine T.cond_f rfl (zs ?_)
   refine z0 (V1.build0 pl_82 zr_82) ?_
   refine zc (T1.storeN rfl rfl sz_82 (ones rfl) z_H zr zr ?_)
   refine zs ?_
   exact ⟨_, [], _, .cons (.cellN z_C one_82 sz_82 (RdN.whole z_A) (by kernel_rfl)) (.cons (.tmp z_C) .nil), Take.nil, rfl, RootIs.none (root_n (by rw [hv]; exact hq) (by rw [hv, ← hng.2]; exact hq2)) rfl⟩
end Go.Proofs.YtfjedhmffccgnaaGreatDoor.S
namespace Go.Proofs.YtfjedhmffccgnaaGreatDoor.S
set_option maxRecDepth 100000
open Go.RowKit
open Ed
structure P4 where
  x : L5
  y : L5
  z : L5
  t : L5
abbrev ptC (p : P4) : List Value := [w64 p.x.a, w64 p.x.b, w64 p.x.c, w64 p.x.d, w64 p.x.e, w64 p.y.a, w64 p.y.b, w64 p.y.c, w64 p.y.d, w64 p.y.e, w64 p.z.a, w64 p.z.b, w64 p.z.c, w64 p.z.d, w64 p.z.e, w64 p.t.a, w64 p.t.b, w64 p.t.c, w64 p.t.d, w64 p.t.e]
abbrev ptV (p : P4) : Value := .agg (ptC p).toArray
def P4.norm (p : P4) : Prop := p.x.norm ∧ p.y.norm ∧ p.z.norm ∧ p.t.norm
def P4.pj (p : P4) : Pj Fp := ⟨p.x.fe, p.y.fe, p.z.fe, p.t.fe⟩
def PtR (A : Pt crv) (p : P4) : Prop := p.norm ∧ p.pj.R A
def dL : List UInt8 := [163, 120, 89, 19, 202, 77, 235, 117, 171, 216, 65, 65, 77, 10, 112, 0, 152, 232, 121, 119, 121, 64, 199, 140, 115, 254, 111, 43, 238, 108, 3, 82]
def bxL : List UInt8 := [26, 213, 37, 143, 96, 45, 86, 201, 178, 167, 37, 149, 96, 199, 44, 105, 92, 220, 214, 253, 49, 226, 164, 192, 254, 83, 110, 205, 211, 54, 105, 33]
def byL : List UInt8 := [88, 102, 102, 102, 102, 102, 102, 102, 102, 102, 102, 102, 102, 102, 102, 102, 102, 102, 102, 102, 102, 102, 102, 102, 102, 102, 102, 102, 102, 102, 102, 102]
noncomputable def dF : L5 := LbF (leN dL % 2 ^ 255)
noncomputable def bxF : L5 := LbF (leN bxL % 2 ^ 255)
noncomputable def byF : L5 := LbF (leN byL % 2 ^ 255)
theorem dF_spec : dF.norm ∧ dF.fe = fp dN := ⟨LbF_norm _, by unfold dF; rw [LbF_fe (Nat.mod_lt _ ze)]; exact congrArg fp z_F⟩
theorem bxF_spec : bxF.norm ∧ bxF.fe = fp bxN := ⟨LbF_norm _, by unfold bxF; rw [LbF_fe (Nat.mod_lt _ ze)]; exact congrArg fp z_F⟩
theorem byF_spec : byF.norm ∧ byF.fe = fp byN := ⟨LbF_norm _, by unfold byF; rw [LbF_fe (Nat.mod_lt _ ze)]; exact congrArg fp z_F⟩
attribute [irreducible] dF bxF byF
theorem factor_any (w : World) : Fn P 51 [] w [] (fun v Y => Y = [] ∧ v = feV dF) := by
 refine Fn.of 3 [.cell 0 82] Go.Proofs.Tryz.func51 rfl rfl rfl rfl ?_
 refine zs ?_
 refine zc (T1.allocN 5 zr_82 rfl (fun b0 => zs ?_))
 refine z0 (V1.buildFA ty_36 sz_5 zr_36 (.one rfl z_C rfl (.one rfl z_C rfl (.one rfl z_C rfl (.one rfl z_C rfl (.one rfl z_C rfl (.one rfl z_C rfl (.one rfl z_C rfl (.one rfl z_C rfl (.one rfl z_C rfl (.one rfl z_C rfl (.one rfl z_C rfl (.one rfl z_C rfl (.one rfl z_C rfl (.one rfl z_C rfl (.one rfl z_C rfl (.one rfl z_C rfl (.one rfl z_C rfl (.one rfl z_C rfl (.one rfl z_C rfl (.one rfl z_C rfl (.one rfl z_C rfl (.one rfl z_C rfl (.one rfl z_C rfl (.one rfl z_C rfl (.one rfl z_C rfl (.one rfl z_C rfl (.one rfl z_C rfl (.one rfl z_C rfl (.one rfl z_C rfl (.one rfl z_C rfl (.one rfl z_C rfl (.one rfl z_C rfl .nil)))))))))))))))))))))))))))))))) z_I) ?_
 refine zc (T1.call0 has_47 rfl (fun w hs => (by unfold dF; exact FOf_any dL w ze : Fn P 47 [.agg (dL.map byteV).toArray] w [] (fun v Y => Y = [] ∧ v = feV dF))) (fun v hv => ?_))
 subst hv
 refine zc (T1.storeN rfl rfl sz_82 (ones rfl) z_H zr zr ?_)
 refine zs ?_
 exact ⟨_, [], _, .cons (.cellN z_C one_82 sz_82 (RdN.whole z_A) (by kernel_rfl)) .nil, Take.nil, rfl, rfl⟩
theorem PZero_any (w : World) : Fn P 50 [] w [] (fun v Y => Y = [] ∧ v = ptV ⟨zeroF, oneF, oneF, zeroF⟩) := by
 refine Fn.of 4 [.cell 0 84] Go.Proofs.Tryz.func50 rfl rfl rfl rfl ?_
 refine zs ?_
 refine zc (T1.allocN 20 zr_84 rfl (fun b0 => zs ?_))
 refine zc (T1.call0 has_48 rfl (fun w hs => Small_any 1#32 w) (fun v hv => ?_))
 subst hv
 refine zc (T1.call0 has_48 rfl (fun w hs => Small_any 1#32 w) (fun v hv => ?_))
 subst hv
 refine z0 (V1.buildF pl_84 zr_84 (.many rfl z_C rfl (.many rfl z_C rfl .nil)) z_I) ?_
 refine zc (T1.storeN rfl rfl sz_84 (ones rfl) z_H zr zr ?_)
 refine zs ?_
 exact ⟨_, [], _, .cons (.cellN z_C one_84 sz_84 (RdN.whole z_A) (by kernel_rfl)) .nil, Take.nil, rfl, rfl⟩
theorem Base_exact (w : World) : Fn P 23 [] w [] (fun v Y => Y = [] ∧ v = ptV ⟨bxF, byF, oneF, mulF bxF byF⟩) := by
 refine Fn.of 14 [.cell 0 84] Go.Proofs.Tryz.func23 rfl rfl rfl rfl ?_
 refine zs ?_
 refine zc (T1.allocN 20 zr_84 rfl (fun b0 => zs ?_))
 refine z0 (V1.buildFA ty_36 sz_5 zr_36 (.one rfl z_C rfl (.one rfl z_C rfl (.one rfl z_C rfl (.one rfl z_C rfl (.one rfl z_C rfl (.one rfl z_C rfl (.one rfl z_C rfl (.one rfl z_C rfl (.one rfl z_C rfl (.one rfl z_C rfl (.one rfl z_C rfl (.one rfl z_C rfl (.one rfl z_C rfl (.one rfl z_C rfl (.one rfl z_C rfl (.one rfl z_C rfl (.one rfl z_C rfl (.one rfl z_C rfl (.one rfl z_C rfl (.one rfl z_C rfl (.one rfl z_C rfl (.one rfl z_C rfl (.one rfl z_C rfl (.one rfl z_C rfl (.one rfl z_C rfl (.one rfl z_C rfl (.one rfl z_C rfl (.one rfl z_C rfl (.one rfl z_C rfl (.one rfl z_C rfl (.one rfl z_C rfl (.one rfl z_C rfl .nil)))))))))))))))))))))))))))))))) z_I) ?_
 refine zc (T1.call0 has_47 rfl (fun w hs => (by unfold bxF; exact FOf_any bxL w ze : Fn P 47 [.agg (bxL.map byteV).toArray] w [] (fun v Y => Y = [] ∧ v = feV bxF))) (fun v hv => ?_))
 subst hv
 refine zc (T1.allocN 5 zr_82 rfl (fun b1 => ?_))
 refine zc (T1.storeN rfl rfl sz_82 (ones rfl) z_H zr zr ?_)
 refine zs ?_
 refine z0 (V1.buildFA ty_36 sz_5 zr_36 (.one rfl z_C rfl (.one rfl z_C rfl (.one rfl z_C rfl (.one rfl z_C rfl (.one rfl z_C rfl (.one rfl z_C rfl (.one rfl z_C rfl (.one rfl z_C rfl (.one rfl z_C rfl (.one rfl z_C rfl (.one rfl z_C rfl (.one rfl z_C rfl (.one rfl z_C rfl (.one rfl z_C rfl (.one rfl z_C rfl (.one rfl z_C rfl (.one rfl z_C rfl (.one rfl z_C rfl (.one rfl z_C rfl (.one rfl z_C rfl (.one rfl z_C rfl (.one rfl z_C rfl (.one rfl z_C rfl (.one rfl z_C rfl (.one rfl z_C rfl (.one rfl z_C rfl (.one rfl z_C rfl (.one rfl z_C rfl (.one rfl z_C rfl (.one rfl z_C rfl (.one rfl z_C rfl (.one rfl z_C rfl .nil)))))))))))))))))))))))))))))))) z_I) ?_
 refine zc (T1.call0 has_47 rfl (fun w hs => (by unfold byF; exact FOf_any byL w ze : Fn P 47 [.agg (byL.map byteV).toArray] w [] (fun v Y => Y = [] ∧ v = feV byF))) (fun v hv => ?_))
 subst hv
 refine zc (T1.allocN 5 zr_82 rfl (fun b2 => ?_))
 refine zc (T1.storeN rfl rfl sz_82 (ones rfl) z_H zr zr ?_)
 refine TL.nil ?_
 refine T.seq (T.drawTail 7 mixed z_F zr z_F rfl ?_)
 refine Det.cons 0 (zO 1 zZ) (fun e_ => .inl ⟨rfl, V1.t (V1.loadN one_82 sz_82 rfl (RdN.whole z_A) zr) ⟨rfl, rfl⟩⟩) ?_
 refine Det.cons 1 (zO 2 zZ) (fun e_ => .inl ⟨rfl, V1.t (V1.loadN one_82 sz_82 rfl (RdN.whole z_A) zr) ⟨rfl, rfl⟩⟩) ?_
 refine Det.cons 2 (ins := []) (v := feV oneF) .nil (fun e_ => .inl ⟨rfl, ?_⟩) ?_
 ·
  refine T1.call0 has_48 rfl (fun w hs => Small_any 1#32 w) (fun v hv => ?_)
  subst hv
  exact ⟨rfl, rfl⟩
 refine Det.cons 3 (zO 1 zZ) (fun e_ => .inl ⟨rfl, V1.t (V1.loadN one_82 sz_82 rfl (RdN.whole z_A) zr) ⟨rfl, rfl⟩⟩) ?_
 refine Det.cons 4 (zO 2 zZ) (fun e_ => .inl ⟨rfl, V1.t (V1.loadN one_82 sz_82 rfl (RdN.whole z_A) zr) ⟨rfl, rfl⟩⟩) ?_
 refine Det.cons 5 (v := feV (mulF bxF byF)) (zN 10 3 rfl (zN 11 4 rfl zZ)) (fun e_ => .inl ⟨rfl, ?_⟩) ?_
 ·
  refine T1.call0 has_49 rfl (fun w hs => Mul_any bxF byF w) (fun v hv => ?_)
  subst hv
  exact ⟨rfl, rfl⟩
 refine zd 6 (zN 7 0 rfl (zN 8 1 rfl (zN 9 2 rfl (zN 12 5 rfl zZ)))) (V1.buildF pl_84 zr_84 (.many rfl z_C rfl (.many rfl z_C rfl (.many rfl z_C rfl (.many rfl z_C rfl .nil)))) z_I) ?_
 refine Det.nil 7 (zQ 0 (zR 13 6 rfl zW)) (fun e_ => ?_)
 refine (show TU _ _ _ 1 _ _ _ from ?_)
 refine TU.one 7 z_F rfl rfl (T1.storeN rfl rfl sz_84 (ones rfl) z_H zr zr ?_)
 refine TU.done z_F ?_
 refine T.ret ?_
 exact ⟨_, [], _, .cons (.cellN z_C one_84 sz_84 (RdN.whole z_A) (by kernel_rfl)) .nil, Take.nil, rfl, rfl⟩
theorem base_pt : PtR Bs ⟨bxF, byF, oneF, mulF bxF byF⟩ := by
 have m := mulF_spec bxF_spec.1 byF_spec.1
 refine ⟨⟨bxF_spec.1, byF_spec.1, oneF_norm, m.1⟩, ?_⟩
 have := Pj.ofR Bs
 unfold P4.pj
 dsimp only
 rw [m.2, bxF_spec.2, byF_spec.2, oneF_fe]
 exact this
theorem zero_pt : PtR (Pt.zero crv) ⟨zeroF, oneF, oneF, zeroF⟩ := by
 refine ⟨⟨zeroF_norm, oneF_norm, oneF_norm, zeroF_norm⟩, ?_⟩
 unfold P4.pj
 dsimp only
 rw [zeroF_fe, oneF_fe]
 exact Pj.zeroR crv
theorem neg_pt {A : Pt crv} {p : P4} (h : PtR A p) : PtR A.neg ⟨subF zeroF p.x, p.y, p.z, subF zeroF p.t⟩ := by
 have nx := neg_spec h.1.1; have nt := neg_spec h.1.2.2.2
 refine ⟨⟨nx.1, h.1.2.1, h.1.2.2.1, nt.1⟩, ?_⟩
 have := Pj.negR h.2
 unfold P4.pj at this ⊢
 dsimp only at this ⊢
 rw [nx.2, nt.2]
 exact this
theorem PNeg_any (p : P4) (w : World) : Fn P 64 [ptV p] w [] (fun v Y => Y = [] ∧ v = ptV ⟨subF zeroF p.x, p.y, p.z, subF zeroF p.t⟩) := by
 refine Fn.of 14 [.cell 2 84] Go.Proofs.Tryz.func64 rfl rfl rfl rfl ?_
 refine zs ?_
 refine zc (T1.boxN (vs := ptC p) 20 rfl rfl (fun b1 => ?_))
 refine zc (T1.allocN 20 zr_84 rfl (fun b2 => ?_))
 refine TL.nil ?_
 refine T.seq (T.drawTail 11 mixed z_F zr z_F rfl ?_)
 refine zd 0 (zO 1 zZ) (V1.fieldAddr fl_84_0 rfl) ?_
 refine Det.cons 1 (zN 3 0 rfl zZ) (fun e_ => .inl ⟨rfl, V1.t (V1.loadN (vs := feC p.x) one_82 sz_82 rfl (RdN.sub (o := 0) (k := 5) (cells := ptC p) z_A) rfl) ⟨rfl, rfl⟩⟩) ?_
 refine Det.cons 2 (v := feV (subF zeroF p.x)) (zN 4 1 rfl zZ) (fun e_ => .inl ⟨rfl, ?_⟩) ?_
 ·
  refine T1.call0 has_106 rfl (fun w hs => Neg_any p.x w) (fun v hv => ?_)
  subst hv
  exact ⟨rfl, rfl⟩
 refine zd 3 (zO 1 zZ) (V1.fieldAddr fl_84_1 rfl) ?_
 refine Det.cons 4 (zN 6 3 rfl zZ) (fun e_ => .inl ⟨rfl, V1.t (V1.loadN (vs := feC p.y) one_82 sz_82 rfl (RdN.sub (o := 5) (k := 5) (cells := ptC p) z_A) rfl) ⟨rfl, rfl⟩⟩) ?_
 refine zd 5 (zO 1 zZ) (V1.fieldAddr fl_84_2 rfl) ?_
 refine Det.cons 6 (zN 8 5 rfl zZ) (fun e_ => .inl ⟨rfl, V1.t (V1.loadN (vs := feC p.z) one_82 sz_82 rfl (RdN.sub (o := 10) (k := 5) (cells := ptC p) z_A) rfl) ⟨rfl, rfl⟩⟩) ?_
 refine zd 7 (zO 1 zZ) (V1.fieldAddr fl_84_3 rfl) ?_
 refine Det.cons 8 (zN 10 7 rfl zZ) (fun e_ => .inl ⟨rfl, V1.t (V1.loadN (vs := feC p.t) one_82 sz_82 rfl (RdN.sub (o := 15) (k := 5) (cells := ptC p) z_A) rfl) ⟨rfl, rfl⟩⟩) ?_
 refine Det.cons 9 (v := feV (subF zeroF p.t)) (zN 11 8 rfl zZ) (fun e_ => .inl ⟨rfl, ?_⟩) ?_
 ·
  refine T1.call0 has_106 rfl (fun w hs => Neg_any p.t w) (fun v hv => ?_)
  subst hv
  exact ⟨rfl, rfl⟩
 refine zd 10 (zN 5 2 rfl (zN 7 4 rfl (zN 9 6 rfl (zN 12 9 rfl zZ)))) (V1.buildF pl_84 zr_84 (.many rfl z_C rfl (.many rfl z_C rfl (.many rfl z_C rfl (.many rfl z_C rfl .nil)))) z_I) ?_
 refine Det.nil 11 (zQ 2 (zR 13 10 rfl zW)) (fun e_ => ?_)
 refine (show TU _ _ _ 1 _ _ _ from ?_)
 refine TU.one 11 z_F rfl rfl (T1.storeN rfl rfl sz_84 (ones rfl) z_H zr zr ?_)
 refine TU.done z_F ?_
 refine T.ret ?_
 exact ⟨_, [], _, .cons (.cellN z_C one_84 sz_84 (RdN.whole z_A) (by kernel_rfl)) .nil, Take.nil, rfl, rfl⟩
end Go.Proofs.YtfjedhmffccgnaaGreatDoor.S
