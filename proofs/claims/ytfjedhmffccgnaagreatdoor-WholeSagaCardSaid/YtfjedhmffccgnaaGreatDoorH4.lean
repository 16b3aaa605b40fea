/- The point of 32 bytes; whether two points are the same; whether eight times a point is nought. -/
import Derived.Test.YtfjedhmffccgnaaGreatDoorH3
namespace Go.Proofs.YtfjedhmffccgnaaGreatDoor.S
set_option maxRecDepth 100000
set_option maxHeartbeats 1000000
open Go.RowKit
open Ed
theorem pt_eq {A B : Pt crv} {p q : P4} (hp : PtR A p) (hq : PtR B q) : (A.x = B.x ↔ p.x.fe * q.z.fe = q.x.fe * p.z.fe) ∧ (A.y = B.y ↔ p.y.fe * q.z.fe = q.y.fe * p.z.fe) := by
 obtain ⟨_, hA⟩ := hp; obtain ⟨_, hB⟩ := hq
 obtain ⟨p0, p1, p2, _⟩ := hA; obtain ⟨q0, q1, q2, _⟩ := hB
 unfold P4.pj at *
 dsimp only at *
 rw [p1, p2, q1, q2]
 have n := mul_ne p0 q0
 constructor
 ·
  constructor
  · intro h; rw [h]; grind
  · intro h; grind
 ·
  constructor
  · intro h; rw [h]; grind
  · intro h; grind
theorem pt_same {A B : Pt crv} : A = B ↔ A.x = B.x ∧ A.y = B.y := ⟨fun h => by rw [h]; exact ⟨rfl, rfl⟩, fun h => Pt.ext' h.1 h.2⟩
theorem odd7 (Q : Pt crv) : decide ((((((encP Q).getD 31 0).toBitVec >>> 7).toNat : Nat) : Int) = ((1#8).toNat : Nat)) = Q.x.odd := by
 have h := byte_bit (l := encP Q) (i := 255) (by rw [encP_len]; decide)
 rw [encP_odd] at h
 have l : (((encP Q).getD 31 0).toBitVec >>> 7).toNat < 2 := by
  rw [BitVec.toNat_ushiftRight, Nat.shiftRight_eq_div_pow]; have := ((encP Q).getD 31 0).toBitVec.isLt; omega
 have h' : (((encP Q).getD 31 0).toBitVec >>> 7).toNat % 2 = if Q.x.odd then 1 else 0 := h
 cases hq : Q.x.odd
 ·
  rw [hq] at h'; simp only [Bool.false_eq_true, if_false] at h'
  exact decide_eq_false (by show ¬ ((((encP Q).getD 31 0).toBitVec >>> 7).toNat : Int) = 1; omega)
 ·
  rw [hq] at h'; simp only [if_true] at h'
  exact decide_eq_true (by show ((((encP Q).getD 31 0).toBitVec >>> 7).toNat : Int) = 1; omega)
theorem enc_low (Q : Pt crv) : (encP Q).set 31 (UInt8.ofBitVec (((encP Q).getD 31 0).toBitVec &&& 127#8)) = leF Q.y.val := by
 rw [leF_eq, ← encP_y]
 have := le_low (leN (encP Q))
 rw [show le 32 (leN (encP Q)) = encP Q from by have := le_leN (encP Q); rw [encP_len] at this; exact this] at this
 exact this
theorem of_enc (Q : Pt crv) : (LbF (leN (leF Q.y.val) % 2 ^ 255)).fe = Q.y := by
 rw [leN_leF (val_lt2 _), Nat.mod_eq_of_lt (val_lt _), LbF_fe (val_lt _), fp_val]
theorem canon_enc (Q : Pt crv) : decide (leN (leF Q.y.val) < Ed.P) = true := by rw [leN_leF (val_lt2 _)]; exact decide_eq_true Q.y.lt
theorem root_of {Q : Pt crv} {u v : Fp} {r : Value} (hu : u = Q.y * Q.y - 1) (hv : v = fp dN * (Q.y * Q.y) + 1) (h : RootIs u v r) : ∃ z : L5, r = .tuple #[feV z, .bool true] ∧ z.norm ∧ z.fe = Q.x.even := by
 subst hu hv
 have := root_on Q
 rcases h with ⟨e, z, h1, h2, h3, h4⟩ | ⟨h1, _⟩
 ·
  rw [this] at h1
  exact ⟨z, h2, h3, by rw [h4]; exact (Option.some.inj h1).symm⟩
 · rw [this] at h1; cases h1
theorem dec_pt {Q : Pt crv} {x y : L5} (hx : x.norm ∧ x.fe = Q.x) (hy : y.norm ∧ y.fe = Q.y) : PtR Q ⟨x, y, oneF, mulF x y⟩ := by
 have m := mulF_spec hx.1 hy.1
 refine ⟨⟨hx.1, hy.1, oneF_norm, m.1⟩, ?_⟩
 have := Pj.ofR Q
 unfold P4.pj
 dsimp only
 rw [m.2, hx.2, hy.2, oneF_fe]
 exact this
theorem sub_one {Q : Pt crv} {y : L5} (hy : y.norm ∧ y.fe = Q.y) : (subF (mulF y y) oneF).norm ∧ (subF (mulF y y) oneF).fe = Q.y * Q.y - 1 := by
 have m := mulF_spec hy.1 hy.1
 have s := subF_spec m.1 oneF_norm
 rw [m.2, hy.2, oneF_fe] at s; exact s
theorem add_one {Q : Pt crv} {y : L5} (hy : y.norm ∧ y.fe = Q.y) : (addF [mulF dF (mulF y y), oneF]).norm ∧ (addF [mulF dF (mulF y y), oneF]).fe = fp dN * (Q.y * Q.y) + 1 := by
 have m := mulF_spec hy.1 hy.1
 have d := mulF_spec dF_spec.1 m.1
 have s := addF2 d.1 oneF_norm
 rw [d.2, m.2, hy.2, dF_spec.2, oneF_fe] at s; exact s
theorem zero_f {x : L5} (e : x.fe ≠ 0) : decide (x.fe = 0) = false := decide_eq_false e
theorem Decode_pt (Q : Pt crv) (w : World) : Fn P 60 [.agg ((encP Q).map byteV).toArray] w [] (fun v Y => Y = [] ∧ ∃ p, v = .tuple #[ptV p, .int .i64 0] ∧ PtR Q p) := by
 have hy : ((LbF (leN (leF Q.y.val) % 2 ^ 255))).norm ∧ ((LbF (leN (leF Q.y.val) % 2 ^ 255))).fe = Q.y := ⟨LbF_norm _, of_enc Q⟩
 refine Fn.of 59 [.cell 2 84, .tmp 3] Go.Proofs.Tryz.func60 rfl rfl rfl rfl ?_
 refine zs ?_
 refine zc (T1.boxN (vs := ((encP Q)).map byteV) 32 rfl (by rw [List.length_map, encP_len Q]) (fun b1 => ?_))
 refine zc (T1.allocN 20 zr_84 rfl (fun b2 => zs ?_))
 refine z0 (V1.indexAddrA ty_36 sz_5 rfl rfl ze ze) ?_
 refine z0 (V1.load1 one_5 rfl (show Rd _ _ ⟨b1, 0 + 31 * 1, none⟩ (byteV ((encP Q).getD 31 0)) from Rd.at z_A (bytes_get (by rw [encP_len]; decide)))) ?_
 refine z0 (V1.shrW (a := ((encP Q).getD 31 0).toBitVec) (k := 7) u8U rfl rfl) ?_
 refine z0 (V1.eqI (r := Q.x.odd) rfl rfl (odd7 Q)) ?_
 rcases hod : Q.x.odd
 ·
  refine zs ?_
  refine z0 (V1.indexAddrA ty_36 sz_5 rfl rfl ze ze) ?_
  refine z0 (V1.load1 one_5 rfl (show Rd _ _ ⟨b1, 0 + 31 * 1, none⟩ (byteV ((encP Q).getD 31 0)) from Rd.at z_A (bytes_get (by rw [encP_len]; decide)))) ?_
  refine z0 (V1.andW (a := ((encP Q).getD 31 0).toBitVec) (b := 127#8) u8U rfl rfl) ?_
  refine z0 (V1.indexAddrA ty_36 sz_5 rfl rfl ze ze) ?_
  refine zc (T1.storeE (o := 0 + 31 * 1) (cells := (encP Q).map byteV) (cells' := (leF Q.y.val).map byteV) rfl rfl sz_5 rfl (by rw [show 0 + 31 * 1 - 0 = 31 from rfl, ← enc_low, List.map_set]; rfl) z_H (Nat.zero_le _) (by rw [List.length_map, encP_len]; decide) ?_)
  refine zs ?_
  refine z0 (V1.loadN (vs := (leF Q.y.val).map byteV) one_36 sz_36 rfl (RdN.whole z_A) z_M) ?_
  refine zc (T1.call0 has_47 rfl (fun w hs => FOf_any (leF Q.y.val) w (leF_len _)) (fun v hv => ?_))
  subst hv
  refine zc (T1.allocN 5 zr_82 rfl (fun b5 => ?_))
  refine zc (T1.storeN rfl rfl sz_82 (ones rfl) z_H zr zr ?_)
  refine TL.nil ?_
  refine T.seq (T.seq (T.live (l := [(1, _), (2, _), (4, _), (5, _)]) zT (fun e_ => ?_)))
  refine T.region (z0 (V1.loadN (vs := (leF Q.y.val).map byteV) one_36 sz_36 rfl (RdN.whole z_A) z_M) ?_)
  refine zc (T1.call0 has_103 rfl (fun w hs => FCanonical_any (leF Q.y.val) w (leF_len _) (by rw [leN_leF (val_lt2 _)]; exact val_lt _)) (fun v hv => ?_))
  rw [canon_enc] at hv
  subst hv
  refine z0 (V1.not rfl rfl) ?_
  refine TL.nil ?_
  refine T.cond_f rfl (zs ?_)
  refine z0 (V1.loadN one_82 sz_82 rfl (RdN.whole z_A) zr) ?_
  refine z0 (V1.loadN one_82 sz_82 rfl (RdN.whole z_A) zr) ?_
  refine zc (T1.call0 has_49 rfl (fun w hs => Mul_any (LbF (leN (leF Q.y.val) % 2 ^ 255)) (LbF (leN (leF Q.y.val) % 2 ^ 255)) w) (fun v hv => ?_))
  subst hv
  refine zc (T1.allocN 5 zr_82 rfl (fun b6 => ?_))
  refine zc (T1.storeN rfl rfl sz_82 (ones rfl) z_H zr zr ?_)
  refine TL.nil ?_
  refine T.cut (σ := Nat × L5) (l0 := [(2, _), (4, _), (5, _)]) (fun x => [(7, .pointer (some ⟨x.1, 0, none⟩)), (8, .bool true)]) (fun x L => L = ⟨x.1, 0, feC x.2, 5⟩ :: ⟨b5, 0, feC (LbF (leN (leF Q.y.val) % 2 ^ 255)), 5⟩ :: ⟨b2, 0, [.int .u64 0, .int .u64 0, .int .u64 0, .int .u64 0, .int .u64 0, .int .u64 0, .int .u64 0, .int .u64 0, .int .u64 0, .int .u64 0, .int .u64 0, .int .u64 0, .int .u64 0, .int .u64 0, .int .u64 0, .int .u64 0, .int .u64 0, .int .u64 0, .int .u64 0, .int .u64 0], 20⟩ :: [] ∧ x.2.norm ∧ x.2.fe = Q.x.even) (.cons z_C (.cons z_C (.cons z_C .nil))) ?_ ?_
  ·
   refine T.drawK (fun L_ => Inc [⟨b6, 0, feC (mulF (LbF (leN (leF Q.y.val) % 2 ^ 255)) (LbF (leN (leF Q.y.val) % 2 ^ 255))), 5⟩] L_) mixed z_D ?_
   refine zk 0 rfl (fun k1_ => V1.loadN (vs := feC (mulF (LbF (leN (leF Q.y.val) % 2 ^ 255)) (LbF (leN (leF Q.y.val) % 2 ^ 255)))) one_82 sz_82 rfl (RdN.whole (k1_.find (List.mem_cons_self ..))) rfl) ?_
   refine zk 4 rfl (fun k1_ => V1.loadN (vs := feC (mulF (LbF (leN (leF Q.y.val) % 2 ^ 255)) (LbF (leN (leF Q.y.val) % 2 ^ 255)))) one_82 sz_82 rfl (RdN.whole (k1_.find (List.mem_cons_self ..))) rfl) ?_
   refine TK.two 1 13 z_F rfl rfl rfl rfl (T1.call0 has_48 rfl (fun w hs => Small_any 1#32 w) (fun v hv => ?_)) (T1.allocN 5 zr_82 rfl (fun b7 => ?_))
   ·
    subst hv
    refine ⟨z_D, TK.two 2 13 z_F rfl rfl rfl rfl (T1.call0 has_97 rfl (fun w hs => Sub_any (mulF (LbF (leN (leF Q.y.val) % 2 ^ 255)) (LbF (leN (leF Q.y.val) % 2 ^ 255))) oneF w) (fun v hv => ?_)) (T1.allocN 5 zr_82 rfl (fun b7 => ?_))⟩
    ·
     subst hv
     refine ⟨z_D, TK.two 3 13 z_F rfl rfl rfl rfl (T1.call0 has_51 rfl (fun w hs => factor_any w) (fun v hv => ?_)) (T1.allocN 5 zr_82 rfl (fun b7 => ?_))⟩
     ·
      subst hv
      refine ⟨z_D, TK.two 5 13 z_F rfl rfl rfl rfl (T1.call0 has_49 rfl (fun w hs => Mul_any dF (mulF (LbF (leN (leF Q.y.val) % 2 ^ 255)) (LbF (leN (leF Q.y.val) % 2 ^ 255))) w) (fun v hv => ?_)) (T1.allocN 5 zr_82 rfl (fun b7 => ?_))⟩
      ·
       subst hv
       refine ⟨z_D, TK.two 6 13 z_F rfl rfl rfl rfl (T1.call0 has_48 rfl (fun w hs => Small_any 1#32 w) (fun v hv => ?_)) (T1.allocN 5 zr_82 rfl (fun b7 => ?_))⟩
       ·
        subst hv
        refine ⟨z_D, TK.two 7 13 z_F rfl rfl rfl rfl (T1.buildMany (vss := [feC (mulF dF (mulF (LbF (leN (leF Q.y.val) % 2 ^ 255)) (LbF (leN (leF Q.y.val) % 2 ^ 255)))), feC (oneF)]) (os := [.tmp 32, .tmp 33]) ty_187 sz_82 zr_82 ze rfl (.cons rfl (.cons rfl .nil)) rfl z_L (fun b34 => ?_)) (T1.allocN 5 zr_82 rfl (fun b7 => ?_))⟩
        ·
         refine ⟨z_D, TK.two 8 13 z_F rfl rfl rfl rfl (T1.callV has_96 rfl rfl (Add_any w [⟨⟨b34, some 82⟩, 0, [mulF dF (mulF (LbF (leN (leF Q.y.val) % 2 ^ 255)) (LbF (leN (leF Q.y.val) % 2 ^ 255))), oneF].flatMap feC, 2 * 5⟩] [mulF dF (mulF (LbF (leN (leF Q.y.val) % 2 ^ 255)) (LbF (leN (leF Q.y.val) % 2 ^ 255))), oneF] (zf) (by simp)) z_D (fun v_ hv => ?_)) (T1.allocN 5 zr_82 rfl (fun b7 => ?_))⟩
         ·
          obtain rfl := hv
          refine ⟨z_D, TK.two 9 13 z_F rfl rfl rfl rfl (T1.call0 has_104 rfl (fun w hs => Root_any (subF (mulF (LbF (leN (leF Q.y.val) % 2 ^ 255)) (LbF (leN (leF Q.y.val) % 2 ^ 255))) oneF) (addF [mulF dF (mulF (LbF (leN (leF Q.y.val) % 2 ^ 255)) (LbF (leN (leF Q.y.val) % 2 ^ 255))), oneF]) w (sub_one hy).1 (add_one hy).1) (fun v hv => ?_)) (T1.allocN 5 zr_82 rfl (fun b7 => ?_))⟩
          ·
           obtain ⟨z, rfl, hzn, hzf⟩ := root_of (sub_one hy).2 (add_one hy).2 hv
           refine ⟨z_D, zk 10 rfl (fun k1_ => V1.move' z_C) ?_⟩
           refine zk 11 rfl (fun k1_ => V1.extract rfl zr) ?_
           refine zk 12 rfl (fun k1_ => V1.extract rfl zr) ?_
           refine zo 13 rfl rfl (T1.allocN 5 zr_82 rfl (fun b7 => ?_))
           refine ⟨z_D, zo 14 rfl rfl (T1.storeN rfl rfl sz_82 (ones rfl) z_H zr zr ?_)⟩
           refine ⟨z_D, zk 15 rfl (fun k1_ => V1.assign' z_C) ?_⟩
           exact TD.done z_F ⟨(b7, z), _, _, trivial, (.cons rfl (.cons rfl .nil)), (.cons rfl (.cons rfl (.cons rfl .nil))), z_B, ⟨rfl, hzn, hzf⟩⟩
          ·
           refine ⟨z_D, zo 9 rfl rfl (T1.call0 has_104 rfl (fun w hs => Root_any (subF (mulF (LbF (leN (leF Q.y.val) % 2 ^ 255)) (LbF (leN (leF Q.y.val) % 2 ^ 255))) oneF) (addF [mulF dF (mulF (LbF (leN (leF Q.y.val) % 2 ^ 255)) (LbF (leN (leF Q.y.val) % 2 ^ 255))), oneF]) w (sub_one hy).1 (add_one hy).1) (fun v hv => ?_))⟩
           obtain ⟨z, rfl, hzn, hzf⟩ := root_of (sub_one hy).2 (add_one hy).2 hv
           refine ⟨z_D, zk 10 rfl (fun k1_ => V1.move' z_C) ?_⟩
           refine zk 11 rfl (fun k1_ => V1.extract rfl zr) ?_
           refine zk 12 rfl (fun k1_ => V1.extract rfl zr) ?_
           refine zo 14 rfl rfl (T1.storeN rfl rfl sz_82 (ones rfl) z_H zr zr ?_)
           refine ⟨z_D, zk 15 rfl (fun k1_ => V1.assign' z_C) ?_⟩
           exact TD.done z_F ⟨(b7, z), _, _, trivial, (.cons rfl (.cons rfl .nil)), (.cons rfl (.cons rfl (.cons rfl .nil))), z_B, ⟨rfl, hzn, hzf⟩⟩
         ·
          refine ⟨z_D, zo 8 rfl rfl (T1.callV has_96 rfl rfl (Add_any w [⟨⟨b34, some 82⟩, 0, [mulF dF (mulF (LbF (leN (leF Q.y.val) % 2 ^ 255)) (LbF (leN (leF Q.y.val) % 2 ^ 255))), oneF].flatMap feC, 2 * 5⟩] [mulF dF (mulF (LbF (leN (leF Q.y.val) % 2 ^ 255)) (LbF (leN (leF Q.y.val) % 2 ^ 255))), oneF] (zf) (by simp)) z_D (fun v_ hv => ?_))⟩
          obtain rfl := hv
          refine ⟨z_D, zo 9 rfl rfl (T1.call0 has_104 rfl (fun w hs => Root_any (subF (mulF (LbF (leN (leF Q.y.val) % 2 ^ 255)) (LbF (leN (leF Q.y.val) % 2 ^ 255))) oneF) (addF [mulF dF (mulF (LbF (leN (leF Q.y.val) % 2 ^ 255)) (LbF (leN (leF Q.y.val) % 2 ^ 255))), oneF]) w (sub_one hy).1 (add_one hy).1) (fun v hv => ?_))⟩
          obtain ⟨z, rfl, hzn, hzf⟩ := root_of (sub_one hy).2 (add_one hy).2 hv
          refine ⟨z_D, zk 10 rfl (fun k1_ => V1.move' z_C) ?_⟩
          refine zk 11 rfl (fun k1_ => V1.extract rfl zr) ?_
          refine zk 12 rfl (fun k1_ => V1.extract rfl zr) ?_
          refine zo 14 rfl rfl (T1.storeN rfl rfl sz_82 (ones rfl) z_H zr zr ?_)
          refine ⟨z_D, zk 15 rfl (fun k1_ => V1.assign' z_C) ?_⟩
          exact TD.done z_F ⟨(b7, z), _, _, trivial, (.cons rfl (.cons rfl .nil)), (.cons rfl (.cons rfl (.cons rfl .nil))), z_B, ⟨rfl, hzn, hzf⟩⟩
        ·
         refine ⟨z_D, zo 7 rfl rfl (T1.buildMany (vss := [feC (mulF dF (mulF (LbF (leN (leF Q.y.val) % 2 ^ 255)) (LbF (leN (leF Q.y.val) % 2 ^ 255)))), feC (oneF)]) (os := [.tmp 32, .tmp 33]) ty_187 sz_82 zr_82 ze rfl (.cons rfl (.cons rfl .nil)) rfl z_L (fun b34 => ?_))⟩
         refine ⟨z_D, zo 8 rfl rfl (T1.callV has_96 rfl rfl (Add_any w [⟨⟨b34, some 82⟩, 0, [mulF dF (mulF (LbF (leN (leF Q.y.val) % 2 ^ 255)) (LbF (leN (leF Q.y.val) % 2 ^ 255))), oneF].flatMap feC, 2 * 5⟩] [mulF dF (mulF (LbF (leN (leF Q.y.val) % 2 ^ 255)) (LbF (leN (leF Q.y.val) % 2 ^ 255))), oneF] (zf) (by simp)) z_D (fun v_ hv => ?_))⟩
         obtain rfl := hv
         refine ⟨z_D, zo 9 rfl rfl (T1.call0 has_104 rfl (fun w hs => Root_any (subF (mulF (LbF (leN (leF Q.y.val) % 2 ^ 255)) (LbF (leN (leF Q.y.val) % 2 ^ 255))) oneF) (addF [mulF dF (mulF (LbF (leN (leF Q.y.val) % 2 ^ 255)) (LbF (leN (leF Q.y.val) % 2 ^ 255))), oneF]) w (sub_one hy).1 (add_one hy).1) (fun v hv => ?_))⟩
         obtain ⟨z, rfl, hzn, hzf⟩ := root_of (sub_one hy).2 (add_one hy).2 hv
         refine ⟨z_D, zk 10 rfl (fun k1_ => V1.move' z_C) ?_⟩
         refine zk 11 rfl (fun k1_ => V1.extract rfl zr) ?_
         refine zk 12 rfl (fun k1_ => V1.extract rfl zr) ?_
         refine zo 14 rfl rfl (T1.storeN rfl rfl sz_82 (ones rfl) z_H zr zr ?_)
         refine ⟨z_D, zk 15 rfl (fun k1_ => V1.assign' z_C) ?_⟩
         exact TD.done z_F ⟨(b7, z), _, _, trivial, (.cons rfl (.cons rfl .nil)), (.cons rfl (.cons rfl (.cons rfl .nil))), z_B, ⟨rfl, hzn, hzf⟩⟩
       ·
        refine ⟨z_D, zo 6 rfl rfl (T1.call0 has_48 rfl (fun w hs => Small_any 1#32 w) (fun v hv => ?_))⟩
        subst hv
        refine ⟨z_D, zo 7 rfl rfl (T1.buildMany (vss := [feC (mulF dF (mulF (LbF (leN (leF Q.y.val) % 2 ^ 255)) (LbF (leN (leF Q.y.val) % 2 ^ 255)))), feC (oneF)]) (os := [.tmp 32, .tmp 33]) ty_187 sz_82 zr_82 ze rfl (.cons rfl (.cons rfl .nil)) rfl z_L (fun b34 => ?_))⟩
        refine ⟨z_D, zo 8 rfl rfl (T1.callV has_96 rfl rfl (Add_any w [⟨⟨b34, some 82⟩, 0, [mulF dF (mulF (LbF (leN (leF Q.y.val) % 2 ^ 255)) (LbF (leN (leF Q.y.val) % 2 ^ 255))), oneF].flatMap feC, 2 * 5⟩] [mulF dF (mulF (LbF (leN (leF Q.y.val) % 2 ^ 255)) (LbF (leN (leF Q.y.val) % 2 ^ 255))), oneF] (zf) (by simp)) z_D (fun v_ hv => ?_))⟩
        obtain rfl := hv
        refine ⟨z_D, zo 9 rfl rfl (T1.call0 has_104 rfl (fun w hs => Root_any (subF (mulF (LbF (leN (leF Q.y.val) % 2 ^ 255)) (LbF (leN (leF Q.y.val) % 2 ^ 255))) oneF) (addF [mulF dF (mulF (LbF (leN (leF Q.y.val) % 2 ^ 255)) (LbF (leN (leF Q.y.val) % 2 ^ 255))), oneF]) w (sub_one hy).1 (add_one hy).1) (fun v hv => ?_))⟩
        obtain ⟨z, rfl, hzn, hzf⟩ := root_of (sub_one hy).2 (add_one hy).2 hv
        refine ⟨z_D, zk 10 rfl (fun k1_ => V1.move' z_C) ?_⟩
        refine zk 11 rfl (fun k1_ => V1.extract rfl zr) ?_
        refine zk 12 rfl (fun k1_ => V1.extract rfl zr) ?_
        refine zo 14 rfl rfl (T1.storeN rfl rfl sz_82 (ones rfl) z_H zr zr ?_)
        refine ⟨z_D, zk 15 rfl (fun k1_ => V1.assign' z_C) ?_⟩
        exact TD.done z_F ⟨(b7, z), _, _, trivial, (.cons rfl (.cons rfl .nil)), (.cons rfl (.cons rfl (.cons rfl .nil))), z_B, ⟨rfl, hzn, hzf⟩⟩
      ·
       refine ⟨z_D, zo 5 rfl rfl (T1.call0 has_49 rfl (fun w hs => Mul_any dF (mulF (LbF (leN (leF Q.y.val) % 2 ^ 255)) (LbF (leN (leF Q.y.val) % 2 ^ 255))) w) (fun v hv => ?_))⟩
       subst hv
       refine ⟨z_D, zo 6 rfl rfl (T1.call0 has_48 rfl (fun w hs => Small_any 1#32 w) (fun v hv => ?_))⟩
       subst hv
       refine ⟨z_D, zo 7 rfl rfl (T1.buildMany (vss := [feC (mulF dF (mulF (LbF (leN (leF Q.y.val) % 2 ^ 255)) (LbF (leN (leF Q.y.val) % 2 ^ 255)))), feC (oneF)]) (os := [.tmp 32, .tmp 33]) ty_187 sz_82 zr_82 ze rfl (.cons rfl (.cons rfl .nil)) rfl z_L (fun b34 => ?_))⟩
       refine ⟨z_D, zo 8 rfl rfl (T1.callV has_96 rfl rfl (Add_any w [⟨⟨b34, some 82⟩, 0, [mulF dF (mulF (LbF (leN (leF Q.y.val) % 2 ^ 255)) (LbF (leN (leF Q.y.val) % 2 ^ 255))), oneF].flatMap feC, 2 * 5⟩] [mulF dF (mulF (LbF (leN (leF Q.y.val) % 2 ^ 255)) (LbF (leN (leF Q.y.val) % 2 ^ 255))), oneF] (zf) (by simp)) z_D (fun v_ hv => ?_))⟩
       obtain rfl := hv
       refine ⟨z_D, zo 9 rfl rfl (T1.call0 has_104 rfl (fun w hs => Root_any (subF (mulF (LbF (leN (leF Q.y.val) % 2 ^ 255)) (LbF (leN (leF Q.y.val) % 2 ^ 255))) oneF) (addF [mulF dF (mulF (LbF (leN (leF Q.y.val) % 2 ^ 255)) (LbF (leN (leF Q.y.val) % 2 ^ 255))), oneF]) w (sub_one hy).1 (add_one hy).1) (fun v hv => ?_))⟩
       obtain ⟨z, rfl, hzn, hzf⟩ := root_of (sub_one hy).2 (add_one hy).2 hv
       refine ⟨z_D, zk 10 rfl (fun k1_ => V1.move' z_C) ?_⟩
       refine zk 11 rfl (fun k1_ => V1.extract rfl zr) ?_
       refine zk 12 rfl (fun k1_ => V1.extract rfl zr) ?_
       refine zo 14 rfl rfl (T1.storeN rfl rfl sz_82 (ones rfl) z_H zr zr ?_)
       refine ⟨z_D, zk 15 rfl (fun k1_ => V1.assign' z_C) ?_⟩
       exact TD.done z_F ⟨(b7, z), _, _, trivial, (.cons rfl (.cons rfl .nil)), (.cons rfl (.cons rfl (.cons rfl .nil))), z_B, ⟨rfl, hzn, hzf⟩⟩
     ·
      refine ⟨z_D, zo 3 rfl rfl (T1.call0 has_51 rfl (fun w hs => factor_any w) (fun v hv => ?_))⟩
      subst hv
      refine ⟨z_D, zo 5 rfl rfl (T1.call0 has_49 rfl (fun w hs => Mul_any dF (mulF (LbF (leN (leF Q.y.val) % 2 ^ 255)) (LbF (leN (leF Q.y.val) % 2 ^ 255))) w) (fun v hv => ?_))⟩
      subst hv
      refine ⟨z_D, zo 6 rfl rfl (T1.call0 has_48 rfl (fun w hs => Small_any 1#32 w) (fun v hv => ?_))⟩
      subst hv
      refine ⟨z_D, zo 7 rfl rfl (T1.buildMany (vss := [feC (mulF dF (mulF (LbF (leN (leF Q.y.val) % 2 ^ 255)) (LbF (leN (leF Q.y.val) % 2 ^ 255)))), feC (oneF)]) (os := [.tmp 32, .tmp 33]) ty_187 sz_82 zr_82 ze rfl (.cons rfl (.cons rfl .nil)) rfl z_L (fun b34 => ?_))⟩
      refine ⟨z_D, zo 8 rfl rfl (T1.callV has_96 rfl rfl (Add_any w [⟨⟨b34, some 82⟩, 0, [mulF dF (mulF (LbF (leN (leF Q.y.val) % 2 ^ 255)) (LbF (leN (leF Q.y.val) % 2 ^ 255))), oneF].flatMap feC, 2 * 5⟩] [mulF dF (mulF (LbF (leN (leF Q.y.val) % 2 ^ 255)) (LbF (leN (leF Q.y.val) % 2 ^ 255))), oneF] (zf) (by simp)) z_D (fun v_ hv => ?_))⟩
      obtain rfl := hv
      refine ⟨z_D, zo 9 rfl rfl (T1.call0 has_104 rfl (fun w hs => Root_any (subF (mulF (LbF (leN (leF Q.y.val) % 2 ^ 255)) (LbF (leN (leF Q.y.val) % 2 ^ 255))) oneF) (addF [mulF dF (mulF (LbF (leN (leF Q.y.val) % 2 ^ 255)) (LbF (leN (leF Q.y.val) % 2 ^ 255))), oneF]) w (sub_one hy).1 (add_one hy).1) (fun v hv => ?_))⟩
      obtain ⟨z, rfl, hzn, hzf⟩ := root_of (sub_one hy).2 (add_one hy).2 hv
      refine ⟨z_D, zk 10 rfl (fun k1_ => V1.move' z_C) ?_⟩
      refine zk 11 rfl (fun k1_ => V1.extract rfl zr) ?_
      refine zk 12 rfl (fun k1_ => V1.extract rfl zr) ?_
      refine zo 14 rfl rfl (T1.storeN rfl rfl sz_82 (ones rfl) z_H zr zr ?_)
      refine ⟨z_D, zk 15 rfl (fun k1_ => V1.assign' z_C) ?_⟩
      exact TD.done z_F ⟨(b7, z), _, _, trivial, (.cons rfl (.cons rfl .nil)), (.cons rfl (.cons rfl (.cons rfl .nil))), z_B, ⟨rfl, hzn, hzf⟩⟩
    ·
     refine ⟨z_D, zo 2 rfl rfl (T1.call0 has_97 rfl (fun w hs => Sub_any (mulF (LbF (leN (leF Q.y.val) % 2 ^ 255)) (LbF (leN (leF Q.y.val) % 2 ^ 255))) oneF w) (fun v hv => ?_))⟩
     subst hv
     refine ⟨z_D, zo 3 rfl rfl (T1.call0 has_51 rfl (fun w hs => factor_any w) (fun v hv => ?_))⟩
     subst hv
     refine ⟨z_D, zo 5 rfl rfl (T1.call0 has_49 rfl (fun w hs => Mul_any dF (mulF (LbF (leN (leF Q.y.val) % 2 ^ 255)) (LbF (leN (leF Q.y.val) % 2 ^ 255))) w) (fun v hv => ?_))⟩
     subst hv
     refine ⟨z_D, zo 6 rfl rfl (T1.call0 has_48 rfl (fun w hs => Small_any 1#32 w) (fun v hv => ?_))⟩
     subst hv
     refine ⟨z_D, zo 7 rfl rfl (T1.buildMany (vss := [feC (mulF dF (mulF (LbF (leN (leF Q.y.val) % 2 ^ 255)) (LbF (leN (leF Q.y.val) % 2 ^ 255)))), feC (oneF)]) (os := [.tmp 32, .tmp 33]) ty_187 sz_82 zr_82 ze rfl (.cons rfl (.cons rfl .nil)) rfl z_L (fun b34 => ?_))⟩
     refine ⟨z_D, zo 8 rfl rfl (T1.callV has_96 rfl rfl (Add_any w [⟨⟨b34, some 82⟩, 0, [mulF dF (mulF (LbF (leN (leF Q.y.val) % 2 ^ 255)) (LbF (leN (leF Q.y.val) % 2 ^ 255))), oneF].flatMap feC, 2 * 5⟩] [mulF dF (mulF (LbF (leN (leF Q.y.val) % 2 ^ 255)) (LbF (leN (leF Q.y.val) % 2 ^ 255))), oneF] (zf) (by simp)) z_D (fun v_ hv => ?_))⟩
     obtain rfl := hv
     refine ⟨z_D, zo 9 rfl rfl (T1.call0 has_104 rfl (fun w hs => Root_any (subF (mulF (LbF (leN (leF Q.y.val) % 2 ^ 255)) (LbF (leN (leF Q.y.val) % 2 ^ 255))) oneF) (addF [mulF dF (mulF (LbF (leN (leF Q.y.val) % 2 ^ 255)) (LbF (leN (leF Q.y.val) % 2 ^ 255))), oneF]) w (sub_one hy).1 (add_one hy).1) (fun v hv => ?_))⟩
     obtain ⟨z, rfl, hzn, hzf⟩ := root_of (sub_one hy).2 (add_one hy).2 hv
     refine ⟨z_D, zk 10 rfl (fun k1_ => V1.move' z_C) ?_⟩
     refine zk 11 rfl (fun k1_ => V1.extract rfl zr) ?_
     refine zk 12 rfl (fun k1_ => V1.extract rfl zr) ?_
     refine zo 14 rfl rfl (T1.storeN rfl rfl sz_82 (ones rfl) z_H zr zr ?_)
     refine ⟨z_D, zk 15 rfl (fun k1_ => V1.assign' z_C) ?_⟩
     exact TD.done z_F ⟨(b7, z), _, _, trivial, (.cons rfl (.cons rfl .nil)), (.cons rfl (.cons rfl (.cons rfl .nil))), z_B, ⟨rfl, hzn, hzf⟩⟩
   ·
    refine ⟨z_D, zo 1 rfl rfl (T1.call0 has_48 rfl (fun w hs => Small_any 1#32 w) (fun v hv => ?_))⟩
    subst hv
    refine ⟨z_D, zo 2 rfl rfl (T1.call0 has_97 rfl (fun w hs => Sub_any (mulF (LbF (leN (leF Q.y.val) % 2 ^ 255)) (LbF (leN (leF Q.y.val) % 2 ^ 255))) oneF w) (fun v hv => ?_))⟩
    subst hv
    refine ⟨z_D, zo 3 rfl rfl (T1.call0 has_51 rfl (fun w hs => factor_any w) (fun v hv => ?_))⟩
    subst hv
    refine ⟨z_D, zo 5 rfl rfl (T1.call0 has_49 rfl (fun w hs => Mul_any dF (mulF (LbF (leN (leF Q.y.val) % 2 ^ 255)) (LbF (leN (leF Q.y.val) % 2 ^ 255))) w) (fun v hv => ?_))⟩
    subst hv
    refine ⟨z_D, zo 6 rfl rfl (T1.call0 has_48 rfl (fun w hs => Small_any 1#32 w) (fun v hv => ?_))⟩
    subst hv
    refine ⟨z_D, zo 7 rfl rfl (T1.buildMany (vss := [feC (mulF dF (mulF (LbF (leN (leF Q.y.val) % 2 ^ 255)) (LbF (leN (leF Q.y.val) % 2 ^ 255)))), feC (oneF)]) (os := [.tmp 32, .tmp 33]) ty_187 sz_82 zr_82 ze rfl (.cons rfl (.cons rfl .nil)) rfl z_L (fun b34 => ?_))⟩
    refine ⟨z_D, zo 8 rfl rfl (T1.callV has_96 rfl rfl (Add_any w [⟨⟨b34, some 82⟩, 0, [mulF dF (mulF (LbF (leN (leF Q.y.val) % 2 ^ 255)) (LbF (leN (leF Q.y.val) % 2 ^ 255))), oneF].flatMap feC, 2 * 5⟩] [mulF dF (mulF (LbF (leN (leF Q.y.val) % 2 ^ 255)) (LbF (leN (leF Q.y.val) % 2 ^ 255))), oneF] (zf) (by simp)) z_D (fun v_ hv => ?_))⟩
    obtain rfl := hv
    refine ⟨z_D, zo 9 rfl rfl (T1.call0 has_104 rfl (fun w hs => Root_any (subF (mulF (LbF (leN (leF Q.y.val) % 2 ^ 255)) (LbF (leN (leF Q.y.val) % 2 ^ 255))) oneF) (addF [mulF dF (mulF (LbF (leN (leF Q.y.val) % 2 ^ 255)) (LbF (leN (leF Q.y.val) % 2 ^ 255))), oneF]) w (sub_one hy).1 (add_one hy).1) (fun v hv => ?_))⟩
    obtain ⟨z, rfl, hzn, hzf⟩ := root_of (sub_one hy).2 (add_one hy).2 hv
    refine ⟨z_D, zk 10 rfl (fun k1_ => V1.move' z_C) ?_⟩
    refine zk 11 rfl (fun k1_ => V1.extract rfl zr) ?_
    refine zk 12 rfl (fun k1_ => V1.extract rfl zr) ?_
    refine zo 14 rfl rfl (T1.storeN rfl rfl sz_82 (ones rfl) z_H zr zr ?_)
    refine ⟨z_D, zk 15 rfl (fun k1_ => V1.assign' z_C) ?_⟩
    exact TD.done z_F ⟨(b7, z), _, _, trivial, (.cons rfl (.cons rfl .nil)), (.cons rfl (.cons rfl (.cons rfl .nil))), z_B, ⟨rfl, hzn, hzf⟩⟩
  ·
   rintro ⟨b7, z⟩ e_ L ⟨rfl, hzn, hzf⟩
   simp only at hzn hzf
   refine zs ?_
   refine zq (V1.not rfl rfl) ?_
   refine TL.no rfl ?_
   refine TL.no rfl ?_
   refine zs ?_
   refine T.cond_f rfl (T.skip (T.seq (T.seq (T.live (l := [(2, _), (4, _), (5, _), (7, _)]) zT (fun e_ => ?_)))))
   refine zs ?_
   refine T.cond_f rfl (T.skip (T.seq (T.drawTail 7 mixed z_F zr z_F rfl ?_)))
   refine Det.cons 0 (zO 7 zZ) (fun e_ => .inl ⟨rfl, V1.t (V1.loadN (vs := feC z) one_82 sz_82 rfl (RdN.whole z_A) rfl) ⟨rfl, rfl⟩⟩) ?_
   refine Det.cons 1 (zO 5 zZ) (fun e_ => .inl ⟨rfl, V1.t (V1.loadN (vs := feC (LbF (leN (leF Q.y.val) % 2 ^ 255))) one_82 sz_82 rfl (RdN.whole z_A) rfl) ⟨rfl, rfl⟩⟩) ?_
   refine Det.cons 2 (ins := []) (v := feV oneF) .nil (fun e_ => .inl ⟨rfl, ?_⟩) ?_
   ·
    refine T1.call0 has_48 rfl (fun w hs => Small_any 1#32 w) (fun v hv => ?_)
    subst hv
    exact ⟨rfl, rfl⟩
   refine Det.cons 3 (zO 7 zZ) (fun e_ => .inl ⟨rfl, V1.t (V1.loadN (vs := feC z) one_82 sz_82 rfl (RdN.whole z_A) rfl) ⟨rfl, rfl⟩⟩) ?_
   refine Det.cons 4 (zO 5 zZ) (fun e_ => .inl ⟨rfl, V1.t (V1.loadN (vs := feC (LbF (leN (leF Q.y.val) % 2 ^ 255))) one_82 sz_82 rfl (RdN.whole z_A) rfl) ⟨rfl, rfl⟩⟩) ?_
   refine Det.cons 5 (v := feV (mulF z (LbF (leN (leF Q.y.val) % 2 ^ 255)))) (zN 55 3 rfl (zN 56 4 rfl zZ)) (fun e_ => .inl ⟨rfl, ?_⟩) ?_
   ·
    refine T1.call0 has_49 rfl (fun w hs => Mul_any z (LbF (leN (leF Q.y.val) % 2 ^ 255)) w) (fun v hv => ?_)
    subst hv
    exact ⟨rfl, rfl⟩
   refine zd 6 (zN 52 0 rfl (zN 53 1 rfl (zN 54 2 rfl (zN 57 5 rfl zZ)))) (V1.buildF pl_84 zr_84 (.many rfl z_C rfl (.many rfl z_C rfl (.many rfl z_C rfl (.many rfl z_C rfl .nil)))) z_I) ?_
   refine Det.nil 7 (zQ 2 (zR 58 6 rfl zW)) (fun e_ => ?_)
   refine (show TU _ _ _ 2 _ _ _ from ?_)
   refine TU.one 7 z_F rfl rfl (T1.storeN rfl rfl sz_84 (ones rfl) z_H zr zr ?_)
   refine TU.one 8 z_F rfl rfl (V1.t (V1.assign' z_C) ?_)
   refine TU.done z_F ?_
   refine T.ret ?_
   have hx2 : (z).norm ∧ (z).fe = Q.x := ⟨hzn, by rw [hzf, even_of hod]⟩
   exact ⟨_, [], _, .cons (.cellN (vs := ptC ⟨z, (LbF (leN (leF Q.y.val) % 2 ^ 255)), oneF, mulF z (LbF (leN (leF Q.y.val) % 2 ^ 255))⟩) z_C one_84 sz_84 (RdN.whole z_A) (by kernel_rfl)) (.cons (.tmp z_C) .nil), Take.nil, rfl, _, rfl, dec_pt hx2 hy⟩
 ·
  refine zs ?_
  refine z0 (V1.indexAddrA ty_36 sz_5 rfl rfl ze ze) ?_
  refine z0 (V1.load1 one_5 rfl (show Rd _ _ ⟨b1, 0 + 31 * 1, none⟩ (byteV ((encP Q).getD 31 0)) from Rd.at z_A (bytes_get (by rw [encP_len]; decide)))) ?_
  refine z0 (V1.andW (a := ((encP Q).getD 31 0).toBitVec) (b := 127#8) u8U rfl rfl) ?_
  refine z0 (V1.indexAddrA ty_36 sz_5 rfl rfl ze ze) ?_
  refine zc (T1.storeE (o := 0 + 31 * 1) (cells := (encP Q).map byteV) (cells' := (leF Q.y.val).map byteV) rfl rfl sz_5 rfl (by rw [show 0 + 31 * 1 - 0 = 31 from rfl, ← enc_low, List.map_set]; rfl) z_H (Nat.zero_le _) (by rw [List.length_map, encP_len]; decide) ?_)
  refine zs ?_
  refine z0 (V1.loadN (vs := (leF Q.y.val).map byteV) one_36 sz_36 rfl (RdN.whole z_A) z_M) ?_
  refine zc (T1.call0 has_47 rfl (fun w hs => FOf_any (leF Q.y.val) w (leF_len _)) (fun v hv => ?_))
  subst hv
  refine zc (T1.allocN 5 zr_82 rfl (fun b5 => ?_))
  refine zc (T1.storeN rfl rfl sz_82 (ones rfl) z_H zr zr ?_)
  refine TL.nil ?_
  refine T.seq (T.seq (T.live (l := [(1, _), (2, _), (4, _), (5, _)]) zT (fun e_ => ?_)))
  refine T.region (z0 (V1.loadN (vs := (leF Q.y.val).map byteV) one_36 sz_36 rfl (RdN.whole z_A) z_M) ?_)
  refine zc (T1.call0 has_103 rfl (fun w hs => FCanonical_any (leF Q.y.val) w (leF_len _) (by rw [leN_leF (val_lt2 _)]; exact val_lt _)) (fun v hv => ?_))
  rw [canon_enc] at hv
  subst hv
  refine z0 (V1.not rfl rfl) ?_
  refine TL.nil ?_
  refine T.cond_f rfl (zs ?_)
  refine z0 (V1.loadN one_82 sz_82 rfl (RdN.whole z_A) zr) ?_
  refine z0 (V1.loadN one_82 sz_82 rfl (RdN.whole z_A) zr) ?_
  refine zc (T1.call0 has_49 rfl (fun w hs => Mul_any (LbF (leN (leF Q.y.val) % 2 ^ 255)) (LbF (leN (leF Q.y.val) % 2 ^ 255)) w) (fun v hv => ?_))
  subst hv
  refine zc (T1.allocN 5 zr_82 rfl (fun b6 => ?_))
  refine zc (T1.storeN rfl rfl sz_82 (ones rfl) z_H zr zr ?_)
  refine TL.nil ?_
  refine T.cut (σ := Nat × L5) (l0 := [(2, _), (4, _), (5, _)]) (fun x => [(7, .pointer (some ⟨x.1, 0, none⟩)), (8, .bool true)]) (fun x L => L = ⟨x.1, 0, feC x.2, 5⟩ :: ⟨b5, 0, feC (LbF (leN (leF Q.y.val) % 2 ^ 255)), 5⟩ :: ⟨b2, 0, [.int .u64 0, .int .u64 0, .int .u64 0, .int .u64 0, .int .u64 0, .int .u64 0, .int .u64 0, .int .u64 0, .int .u64 0, .int .u64 0, .int .u64 0, .int .u64 0, .int .u64 0, .int .u64 0, .int .u64 0, .int .u64 0, .int .u64 0, .int .u64 0, .int .u64 0, .int .u64 0], 20⟩ :: [] ∧ x.2.norm ∧ x.2.fe = Q.x.even) (.cons z_C (.cons z_C (.cons z_C .nil))) ?_ ?_
  ·
   refine T.drawK (fun L_ => Inc [⟨b6, 0, feC (mulF (LbF (leN (leF Q.y.val) % 2 ^ 255)) (LbF (leN (leF Q.y.val) % 2 ^ 255))), 5⟩] L_) mixed z_D ?_
   refine zk 0 rfl (fun k1_ => V1.loadN (vs := feC (mulF (LbF (leN (leF Q.y.val) % 2 ^ 255)) (LbF (leN (leF Q.y.val) % 2 ^ 255)))) one_82 sz_82 rfl (RdN.whole (k1_.find (List.mem_cons_self ..))) rfl) ?_
   refine zk 4 rfl (fun k1_ => V1.loadN (vs := feC (mulF (LbF (leN (leF Q.y.val) % 2 ^ 255)) (LbF (leN (leF Q.y.val) % 2 ^ 255)))) one_82 sz_82 rfl (RdN.whole (k1_.find (List.mem_cons_self ..))) rfl) ?_
   refine TK.two 1 13 z_F rfl rfl rfl rfl (T1.call0 has_48 rfl (fun w hs => Small_any 1#32 w) (fun v hv => ?_)) (T1.allocN 5 zr_82 rfl (fun b7 => ?_))
   ·
    subst hv
    refine ⟨z_D, TK.two 2 13 z_F rfl rfl rfl rfl (T1.call0 has_97 rfl (fun w hs => Sub_any (mulF (LbF (leN (leF Q.y.val) % 2 ^ 255)) (LbF (leN (leF Q.y.val) % 2 ^ 255))) oneF w) (fun v hv => ?_)) (T1.allocN 5 zr_82 rfl (fun b7 => ?_))⟩
    ·
     subst hv
     refine ⟨z_D, TK.two 3 13 z_F rfl rfl rfl rfl (T1.call0 has_51 rfl (fun w hs => factor_any w) (fun v hv => ?_)) (T1.allocN 5 zr_82 rfl (fun b7 => ?_))⟩
     ·
      subst hv
      refine ⟨z_D, TK.two 5 13 z_F rfl rfl rfl rfl (T1.call0 has_49 rfl (fun w hs => Mul_any dF (mulF (LbF (leN (leF Q.y.val) % 2 ^ 255)) (LbF (leN (leF Q.y.val) % 2 ^ 255))) w) (fun v hv => ?_)) (T1.allocN 5 zr_82 rfl (fun b7 => ?_))⟩
      ·
       subst hv
       refine ⟨z_D, TK.two 6 13 z_F rfl rfl rfl rfl (T1.call0 has_48 rfl (fun w hs => Small_any 1#32 w) (fun v hv => ?_)) (T1.allocN 5 zr_82 rfl (fun b7 => ?_))⟩
       ·
        subst hv
        refine ⟨z_D, TK.two 7 13 z_F rfl rfl rfl rfl (T1.buildMany (vss := [feC (mulF dF (mulF (LbF (leN (leF Q.y.val) % 2 ^ 255)) (LbF (leN (leF Q.y.val) % 2 ^ 255)))), feC (oneF)]) (os := [.tmp 32, .tmp 33]) ty_187 sz_82 zr_82 ze rfl (.cons rfl (.cons rfl .nil)) rfl z_L (fun b34 => ?_)) (T1.allocN 5 zr_82 rfl (fun b7 => ?_))⟩
        ·
         refine ⟨z_D, TK.two 8 13 z_F rfl rfl rfl rfl (T1.callV has_96 rfl rfl (Add_any w [⟨⟨b34, some 82⟩, 0, [mulF dF (mulF (LbF (leN (leF Q.y.val) % 2 ^ 255)) (LbF (leN (leF Q.y.val) % 2 ^ 255))), oneF].flatMap feC, 2 * 5⟩] [mulF dF (mulF (LbF (leN (leF Q.y.val) % 2 ^ 255)) (LbF (leN (leF Q.y.val) % 2 ^ 255))), oneF] (zf) (by simp)) z_D (fun v_ hv => ?_)) (T1.allocN 5 zr_82 rfl (fun b7 => ?_))⟩
         ·
          obtain rfl := hv
          refine ⟨z_D, TK.two 9 13 z_F rfl rfl rfl rfl (T1.call0 has_104 rfl (fun w hs => Root_any (subF (mulF (LbF (leN (leF Q.y.val) % 2 ^ 255)) (LbF (leN (leF Q.y.val) % 2 ^ 255))) oneF) (addF [mulF dF (mulF (LbF (leN (leF Q.y.val) % 2 ^ 255)) (LbF (leN (leF Q.y.val) % 2 ^ 255))), oneF]) w (sub_one hy).1 (add_one hy).1) (fun v hv => ?_)) (T1.allocN 5 zr_82 rfl (fun b7 => ?_))⟩
          ·
           obtain ⟨z, rfl, hzn, hzf⟩ := root_of (sub_one hy).2 (add_one hy).2 hv
           refine ⟨z_D, zk 10 rfl (fun k1_ => V1.move' z_C) ?_⟩
           refine zk 11 rfl (fun k1_ => V1.extract rfl zr) ?_
           refine zk 12 rfl (fun k1_ => V1.extract rfl zr) ?_
           refine zo 13 rfl rfl (T1.allocN 5 zr_82 rfl (fun b7 => ?_))
           refine ⟨z_D, zo 14 rfl rfl (T1.storeN rfl rfl sz_82 (ones rfl) z_H zr zr ?_)⟩
           refine ⟨z_D, zk 15 rfl (fun k1_ => V1.assign' z_C) ?_⟩
           exact TD.done z_F ⟨(b7, z), _, _, trivial, (.cons rfl (.cons rfl .nil)), (.cons rfl (.cons rfl (.cons rfl .nil))), z_B, ⟨rfl, hzn, hzf⟩⟩
          ·
           refine ⟨z_D, zo 9 rfl rfl (T1.call0 has_104 rfl (fun w hs => Root_any (subF (mulF (LbF (leN (leF Q.y.val) % 2 ^ 255)) (LbF (leN (leF Q.y.val) % 2 ^ 255))) oneF) (addF [mulF dF (mulF (LbF (leN (leF Q.y.val) % 2 ^ 255)) (LbF (leN (leF Q.y.val) % 2 ^ 255))), oneF]) w (sub_one hy).1 (add_one hy).1) (fun v hv => ?_))⟩
           obtain ⟨z, rfl, hzn, hzf⟩ := root_of (sub_one hy).2 (add_one hy).2 hv
           refine ⟨z_D, zk 10 rfl (fun k1_ => V1.move' z_C) ?_⟩
           refine zk 11 rfl (fun k1_ => V1.extract rfl zr) ?_
           refine zk 12 rfl (fun k1_ => V1.extract rfl zr) ?_
           refine zo 14 rfl rfl (T1.storeN rfl rfl sz_82 (ones rfl) z_H zr zr ?_)
           refine ⟨z_D, zk 15 rfl (fun k1_ => V1.assign' z_C) ?_⟩
           exact TD.done z_F ⟨(b7, z), _, _, trivial, (.cons rfl (.cons rfl .nil)), (.cons rfl (.cons rfl (.cons rfl .nil))), z_B, ⟨rfl, hzn, hzf⟩⟩
         ·
          refine ⟨z_D, zo 8 rfl rfl (T1.callV has_96 rfl rfl (Add_any w [⟨⟨b34, some 82⟩, 0, [mulF dF (mulF (LbF (leN (leF Q.y.val) % 2 ^ 255)) (LbF (leN (leF Q.y.val) % 2 ^ 255))), oneF].flatMap feC, 2 * 5⟩] [mulF dF (mulF (LbF (leN (leF Q.y.val) % 2 ^ 255)) (LbF (leN (leF Q.y.val) % 2 ^ 255))), oneF] (zf) (by simp)) z_D (fun v_ hv => ?_))⟩
          obtain rfl := hv
          refine ⟨z_D, zo 9 rfl rfl (T1.call0 has_104 rfl (fun w hs => Root_any (subF (mulF (LbF (leN (leF Q.y.val) % 2 ^ 255)) (LbF (leN (leF Q.y.val) % 2 ^ 255))) oneF) (addF [mulF dF (mulF (LbF (leN (leF Q.y.val) % 2 ^ 255)) (LbF (leN (leF Q.y.val) % 2 ^ 255))), oneF]) w (sub_one hy).1 (add_one hy).1) (fun v hv => ?_))⟩
          obtain ⟨z, rfl, hzn, hzf⟩ := root_of (sub_one hy).2 (add_one hy).2 hv
          refine ⟨z_D, zk 10 rfl (fun k1_ => V1.move' z_C) ?_⟩
          refine zk 11 rfl (fun k1_ => V1.extract rfl zr) ?_
          refine zk 12 rfl (fun k1_ => V1.extract rfl zr) ?_
          refine zo 14 rfl rfl (T1.storeN rfl rfl sz_82 (ones rfl) z_H zr zr ?_)
          refine ⟨z_D, zk 15 rfl (fun k1_ => V1.assign' z_C) ?_⟩
          exact TD.done z_F ⟨(b7, z), _, _, trivial, (.cons rfl (.cons rfl .nil)), (.cons rfl (.cons rfl (.cons rfl .nil))), z_B, ⟨rfl, hzn, hzf⟩⟩
        ·
         refine ⟨z_D, zo 7 rfl rfl (T1.buildMany (vss := [feC (mulF dF (mulF (LbF (leN (leF Q.y.val) % 2 ^ 255)) (LbF (leN (leF Q.y.val) % 2 ^ 255)))), feC (oneF)]) (os := [.tmp 32, .tmp 33]) ty_187 sz_82 zr_82 ze rfl (.cons rfl (.cons rfl .nil)) rfl z_L (fun b34 => ?_))⟩
         refine ⟨z_D, zo 8 rfl rfl (T1.callV has_96 rfl rfl (Add_any w [⟨⟨b34, some 82⟩, 0, [mulF dF (mulF (LbF (leN (leF Q.y.val) % 2 ^ 255)) (LbF (leN (leF Q.y.val) % 2 ^ 255))), oneF].flatMap feC, 2 * 5⟩] [mulF dF (mulF (LbF (leN (leF Q.y.val) % 2 ^ 255)) (LbF (leN (leF Q.y.val) % 2 ^ 255))), oneF] (zf) (by simp)) z_D (fun v_ hv => ?_))⟩
         obtain rfl := hv
         refine ⟨z_D, zo 9 rfl rfl (T1.call0 has_104 rfl (fun w hs => Root_any (subF (mulF (LbF (leN (leF Q.y.val) % 2 ^ 255)) (LbF (leN (leF Q.y.val) % 2 ^ 255))) oneF) (addF [mulF dF (mulF (LbF (leN (leF Q.y.val) % 2 ^ 255)) (LbF (leN (leF Q.y.val) % 2 ^ 255))), oneF]) w (sub_one hy).1 (add_one hy).1) (fun v hv => ?_))⟩
         obtain ⟨z, rfl, hzn, hzf⟩ := root_of (sub_one hy).2 (add_one hy).2 hv
         refine ⟨z_D, zk 10 rfl (fun k1_ => V1.move' z_C) ?_⟩
         refine zk 11 rfl (fun k1_ => V1.extract rfl zr) ?_
         refine zk 12 rfl (fun k1_ => V1.extract rfl zr) ?_
         refine zo 14 rfl rfl (T1.storeN rfl rfl sz_82 (ones rfl) z_H zr zr ?_)
         refine ⟨z_D, zk 15 rfl (fun k1_ => V1.assign' z_C) ?_⟩
         exact TD.done z_F ⟨(b7, z), _, _, trivial, (.cons rfl (.cons rfl .nil)), (.cons rfl (.cons rfl (.cons rfl .nil))), z_B, ⟨rfl, hzn, hzf⟩⟩
       ·
        refine ⟨z_D, zo 6 rfl rfl (T1.call0 has_48 rfl (fun w hs => Small_any 1#32 w) (fun v hv => ?_))⟩
        subst hv
        refine ⟨z_D, zo 7 rfl rfl (T1.buildMany (vss := [feC (mulF dF (mulF (LbF (leN (leF Q.y.val) % 2 ^ 255)) (LbF (leN (leF Q.y.val) % 2 ^ 255)))), feC (oneF)]) (os := [.tmp 32, .tmp 33]) ty_187 sz_82 zr_82 ze rfl (.cons rfl (.cons rfl .nil)) rfl z_L (fun b34 => ?_))⟩
        refine ⟨z_D, zo 8 rfl rfl (T1.callV has_96 rfl rfl (Add_any w [⟨⟨b34, some 82⟩, 0, [mulF dF (mulF (LbF (leN (leF Q.y.val) % 2 ^ 255)) (LbF (leN (leF Q.y.val) % 2 ^ 255))), oneF].flatMap feC, 2 * 5⟩] [mulF dF (mulF (LbF (leN (leF Q.y.val) % 2 ^ 255)) (LbF (leN (leF Q.y.val) % 2 ^ 255))), oneF] (zf) (by simp)) z_D (fun v_ hv => ?_))⟩
        obtain rfl := hv
        refine ⟨z_D, zo 9 rfl rfl (T1.call0 has_104 rfl (fun w hs => Root_any (subF (mulF (LbF (leN (leF Q.y.val) % 2 ^ 255)) (LbF (leN (leF Q.y.val) % 2 ^ 255))) oneF) (addF [mulF dF (mulF (LbF (leN (leF Q.y.val) % 2 ^ 255)) (LbF (leN (leF Q.y.val) % 2 ^ 255))), oneF]) w (sub_one hy).1 (add_one hy).1) (fun v hv => ?_))⟩
        obtain ⟨z, rfl, hzn, hzf⟩ := root_of (sub_one hy).2 (add_one hy).2 hv
        refine ⟨z_D, zk 10 rfl (fun k1_ => V1.move' z_C) ?_⟩
        refine zk 11 rfl (fun k1_ => V1.extract rfl zr) ?_
        refine zk 12 rfl (fun k1_ => V1.extract rfl zr) ?_
        refine zo 14 rfl rfl (T1.storeN rfl rfl sz_82 (ones rfl) z_H zr zr ?_)
        refine ⟨z_D, zk 15 rfl (fun k1_ => V1.assign' z_C) ?_⟩
        exact TD.done z_F ⟨(b7, z), _, _, trivial, (.cons rfl (.cons rfl .nil)), (.cons rfl (.cons rfl (.cons rfl .nil))), z_B, ⟨rfl, hzn, hzf⟩⟩
      ·
       refine ⟨z_D, zo 5 rfl rfl (T1.call0 has_49 rfl (fun w hs => Mul_any dF (mulF (LbF (leN (leF Q.y.val) % 2 ^ 255)) (LbF (leN (leF Q.y.val) % 2 ^ 255))) w) (fun v hv => ?_))⟩
       subst hv
       refine ⟨z_D, zo 6 rfl rfl (T1.call0 has_48 rfl (fun w hs => Small_any 1#32 w) (fun v hv => ?_))⟩
       subst hv
       refine ⟨z_D, zo 7 rfl rfl (T1.buildMany (vss := [feC (mulF dF (mulF (LbF (leN (leF Q.y.val) % 2 ^ 255)) (LbF (leN (leF Q.y.val) % 2 ^ 255)))), feC (oneF)]) (os := [.tmp 32, .tmp 33]) ty_187 sz_82 zr_82 ze rfl (.cons rfl (.cons rfl .nil)) rfl z_L (fun b34 => ?_))⟩
       refine ⟨z_D, zo 8 rfl rfl (T1.callV has_96 rfl rfl (Add_any w [⟨⟨b34, some 82⟩, 0, [mulF dF (mulF (LbF (leN (leF Q.y.val) % 2 ^ 255)) (LbF (leN (leF Q.y.val) % 2 ^ 255))), oneF].flatMap feC, 2 * 5⟩] [mulF dF (mulF (LbF (leN (leF Q.y.val) % 2 ^ 255)) (LbF (leN (leF Q.y.val) % 2 ^ 255))), oneF] (zf) (by simp)) z_D (fun v_ hv => ?_))⟩
       obtain rfl := hv
       refine ⟨z_D, zo 9 rfl rfl (T1.call0 has_104 rfl (fun w hs => Root_any (subF (mulF (LbF (leN (leF Q.y.val) % 2 ^ 255)) (LbF (leN (leF Q.y.val) % 2 ^ 255))) oneF) (addF [mulF dF (mulF (LbF (leN (leF Q.y.val) % 2 ^ 255)) (LbF (leN (leF Q.y.val) % 2 ^ 255))), oneF]) w (sub_one hy).1 (add_one hy).1) (fun v hv => ?_))⟩
       obtain ⟨z, rfl, hzn, hzf⟩ := root_of (sub_one hy).2 (add_one hy).2 hv
       refine ⟨z_D, zk 10 rfl (fun k1_ => V1.move' z_C) ?_⟩
       refine zk 11 rfl (fun k1_ => V1.extract rfl zr) ?_
       refine zk 12 rfl (fun k1_ => V1.extract rfl zr) ?_
       refine zo 14 rfl rfl (T1.storeN rfl rfl sz_82 (ones rfl) z_H zr zr ?_)
       refine ⟨z_D, zk 15 rfl (fun k1_ => V1.assign' z_C) ?_⟩
       exact TD.done z_F ⟨(b7, z), _, _, trivial, (.cons rfl (.cons rfl .nil)), (.cons rfl (.cons rfl (.cons rfl .nil))), z_B, ⟨rfl, hzn, hzf⟩⟩
     ·
      refine ⟨z_D, zo 3 rfl rfl (T1.call0 has_51 rfl (fun w hs => factor_any w) (fun v hv => ?_))⟩
      subst hv
      refine ⟨z_D, zo 5 rfl rfl (T1.call0 has_49 rfl (fun w hs => Mul_any dF (mulF (LbF (leN (leF Q.y.val) % 2 ^ 255)) (LbF (leN (leF Q.y.val) % 2 ^ 255))) w) (fun v hv => ?_))⟩
      subst hv
      refine ⟨z_D, zo 6 rfl rfl (T1.call0 has_48 rfl (fun w hs => Small_any 1#32 w) (fun v hv => ?_))⟩
      subst hv
      refine ⟨z_D, zo 7 rfl rfl (T1.buildMany (vss := [feC (mulF dF (mulF (LbF (leN (leF Q.y.val) % 2 ^ 255)) (LbF (leN (leF Q.y.val) % 2 ^ 255)))), feC (oneF)]) (os := [.tmp 32, .tmp 33]) ty_187 sz_82 zr_82 ze rfl (.cons rfl (.cons rfl .nil)) rfl z_L (fun b34 => ?_))⟩
      refine ⟨z_D, zo 8 rfl rfl (T1.callV has_96 rfl rfl (Add_any w [⟨⟨b34, some 82⟩, 0, [mulF dF (mulF (LbF (leN (leF Q.y.val) % 2 ^ 255)) (LbF (leN (leF Q.y.val) % 2 ^ 255))), oneF].flatMap feC, 2 * 5⟩] [mulF dF (mulF (LbF (leN (leF Q.y.val) % 2 ^ 255)) (LbF (leN (leF Q.y.val) % 2 ^ 255))), oneF] (zf) (by simp)) z_D (fun v_ hv => ?_))⟩
      obtain rfl := hv
      refine ⟨z_D, zo 9 rfl rfl (T1.call0 has_104 rfl (fun w hs => Root_any (subF (mulF (LbF (leN (leF Q.y.val) % 2 ^ 255)) (LbF (leN (leF Q.y.val) % 2 ^ 255))) oneF) (addF [mulF dF (mulF (LbF (leN (leF Q.y.val) % 2 ^ 255)) (LbF (leN (leF Q.y.val) % 2 ^ 255))), oneF]) w (sub_one hy).1 (add_one hy).1) (fun v hv => ?_))⟩
      obtain ⟨z, rfl, hzn, hzf⟩ := root_of (sub_one hy).2 (add_one hy).2 hv
      refine ⟨z_D, zk 10 rfl (fun k1_ => V1.move' z_C) ?_⟩
      refine zk 11 rfl (fun k1_ => V1.extract rfl zr) ?_
      refine zk 12 rfl (fun k1_ => V1.extract rfl zr) ?_
      refine zo 14 rfl rfl (T1.storeN rfl rfl sz_82 (ones rfl) z_H zr zr ?_)
      refine ⟨z_D, zk 15 rfl (fun k1_ => V1.assign' z_C) ?_⟩
      exact TD.done z_F ⟨(b7, z), _, _, trivial, (.cons rfl (.cons rfl .nil)), (.cons rfl (.cons rfl (.cons rfl .nil))), z_B, ⟨rfl, hzn, hzf⟩⟩
    ·
     refine ⟨z_D, zo 2 rfl rfl (T1.call0 has_97 rfl (fun w hs => Sub_any (mulF (LbF (leN (leF Q.y.val) % 2 ^ 255)) (LbF (leN (leF Q.y.val) % 2 ^ 255))) oneF w) (fun v hv => ?_))⟩
     subst hv
     refine ⟨z_D, zo 3 rfl rfl (T1.call0 has_51 rfl (fun w hs => factor_any w) (fun v hv => ?_))⟩
     subst hv
     refine ⟨z_D, zo 5 rfl rfl (T1.call0 has_49 rfl (fun w hs => Mul_any dF (mulF (LbF (leN (leF Q.y.val) % 2 ^ 255)) (LbF (leN (leF Q.y.val) % 2 ^ 255))) w) (fun v hv => ?_))⟩
     subst hv
     refine ⟨z_D, zo 6 rfl rfl (T1.call0 has_48 rfl (fun w hs => Small_any 1#32 w) (fun v hv => ?_))⟩
     subst hv
     refine ⟨z_D, zo 7 rfl rfl (T1.buildMany (vss := [feC (mulF dF (mulF (LbF (leN (leF Q.y.val) % 2 ^ 255)) (LbF (leN (leF Q.y.val) % 2 ^ 255)))), feC (oneF)]) (os := [.tmp 32, .tmp 33]) ty_187 sz_82 zr_82 ze rfl (.cons rfl (.cons rfl .nil)) rfl z_L (fun b34 => ?_))⟩
     refine ⟨z_D, zo 8 rfl rfl (T1.callV has_96 rfl rfl (Add_any w [⟨⟨b34, some 82⟩, 0, [mulF dF (mulF (LbF (leN (leF Q.y.val) % 2 ^ 255)) (LbF (leN (leF Q.y.val) % 2 ^ 255))), oneF].flatMap feC, 2 * 5⟩] [mulF dF (mulF (LbF (leN (leF Q.y.val) % 2 ^ 255)) (LbF (leN (leF Q.y.val) % 2 ^ 255))), oneF] (zf) (by simp)) z_D (fun v_ hv => ?_))⟩
     obtain rfl := hv
     refine ⟨z_D, zo 9 rfl rfl (T1.call0 has_104 rfl (fun w hs => Root_any (subF (mulF (LbF (leN (leF Q.y.val) % 2 ^ 255)) (LbF (leN (leF Q.y.val) % 2 ^ 255))) oneF) (addF [mulF dF (mulF (LbF (leN (leF Q.y.val) % 2 ^ 255)) (LbF (leN (leF Q.y.val) % 2 ^ 255))), oneF]) w (sub_one hy).1 (add_one hy).1) (fun v hv => ?_))⟩
     obtain ⟨z, rfl, hzn, hzf⟩ := root_of (sub_one hy).2 (add_one hy).2 hv
     refine ⟨z_D, zk 10 rfl (fun k1_ => V1.move' z_C) ?_⟩
     refine zk 11 rfl (fun k1_ => V1.extract rfl zr) ?_
     refine zk 12 rfl (fun k1_ => V1.extract rfl zr) ?_
     refine zo 14 rfl rfl (T1.storeN rfl rfl sz_82 (ones rfl) z_H zr zr ?_)
     refine ⟨z_D, zk 15 rfl (fun k1_ => V1.assign' z_C) ?_⟩
     exact TD.done z_F ⟨(b7, z), _, _, trivial, (.cons rfl (.cons rfl .nil)), (.cons rfl (.cons rfl (.cons rfl .nil))), z_B, ⟨rfl, hzn, hzf⟩⟩
   ·
    refine ⟨z_D, zo 1 rfl rfl (T1.call0 has_48 rfl (fun w hs => Small_any 1#32 w) (fun v hv => ?_))⟩
    subst hv
    refine ⟨z_D, zo 2 rfl rfl (T1.call0 has_97 rfl (fun w hs => Sub_any (mulF (LbF (leN (leF Q.y.val) % 2 ^ 255)) (LbF (leN (leF Q.y.val) % 2 ^ 255))) oneF w) (fun v hv => ?_))⟩
    subst hv
    refine ⟨z_D, zo 3 rfl rfl (T1.call0 has_51 rfl (fun w hs => factor_any w) (fun v hv => ?_))⟩
    subst hv
    refine ⟨z_D, zo 5 rfl rfl (T1.call0 has_49 rfl (fun w hs => Mul_any dF (mulF (LbF (leN (leF Q.y.val) % 2 ^ 255)) (LbF (leN (leF Q.y.val) % 2 ^ 255))) w) (fun v hv => ?_))⟩
    subst hv
    refine ⟨z_D, zo 6 rfl rfl (T1.call0 has_48 rfl (fun w hs => Small_any 1#32 w) (fun v hv => ?_))⟩
    subst hv
    refine ⟨z_D, zo 7 rfl rfl (T1.buildMany (vss := [feC (mulF dF (mulF (LbF (leN (leF Q.y.val) % 2 ^ 255)) (LbF (leN (leF Q.y.val) % 2 ^ 255)))), feC (oneF)]) (os := [.tmp 32, .tmp 33]) ty_187 sz_82 zr_82 ze rfl (.cons rfl (.cons rfl .nil)) rfl z_L (fun b34 => ?_))⟩
    refine ⟨z_D, zo 8 rfl rfl (T1.callV has_96 rfl rfl (Add_any w [⟨⟨b34, some 82⟩, 0, [mulF dF (mulF (LbF (leN (leF Q.y.val) % 2 ^ 255)) (LbF (leN (leF Q.y.val) % 2 ^ 255))), oneF].flatMap feC, 2 * 5⟩] [mulF dF (mulF (LbF (leN (leF Q.y.val) % 2 ^ 255)) (LbF (leN (leF Q.y.val) % 2 ^ 255))), oneF] (zf) (by simp)) z_D (fun v_ hv => ?_))⟩
    obtain rfl := hv
    refine ⟨z_D, zo 9 rfl rfl (T1.call0 has_104 rfl (fun w hs => Root_any (subF (mulF (LbF (leN (leF Q.y.val) % 2 ^ 255)) (LbF (leN (leF Q.y.val) % 2 ^ 255))) oneF) (addF [mulF dF (mulF (LbF (leN (leF Q.y.val) % 2 ^ 255)) (LbF (leN (leF Q.y.val) % 2 ^ 255))), oneF]) w (sub_one hy).1 (add_one hy).1) (fun v hv => ?_))⟩
    obtain ⟨z, rfl, hzn, hzf⟩ := root_of (sub_one hy).2 (add_one hy).2 hv
    refine ⟨z_D, zk 10 rfl (fun k1_ => V1.move' z_C) ?_⟩
    refine zk 11 rfl (fun k1_ => V1.extract rfl zr) ?_
    refine zk 12 rfl (fun k1_ => V1.extract rfl zr) ?_
    refine zo 14 rfl rfl (T1.storeN rfl rfl sz_82 (ones rfl) z_H zr zr ?_)
    refine ⟨z_D, zk 15 rfl (fun k1_ => V1.assign' z_C) ?_⟩
    exact TD.done z_F ⟨(b7, z), _, _, trivial, (.cons rfl (.cons rfl .nil)), (.cons rfl (.cons rfl (.cons rfl .nil))), z_B, ⟨rfl, hzn, hzf⟩⟩
  ·
   rintro ⟨b7, z⟩ e_ L ⟨rfl, hzn, hzf⟩
   simp only at hzn hzf
   refine zs ?_
   refine zq (V1.not rfl rfl) ?_
   refine z0 (V1.loadN (vs := feC z) one_82 sz_82 rfl (RdN.whole z_A) rfl) ?_
   refine zc (T1.call0 has_105 rfl (fun w hs => IsZero_any z w hzn) (fun v hv => ?_))
   rw [zero_f (by rw [hzf, even_of' hod]; have := odd_ne hod; grind)] at hv
   subst hv
   refine zs ?_
   refine T.cond_f rfl (T.skip (T.seq (T.seq (T.live (l := [(2, _), (4, _), (5, _), (7, _)]) zT (fun e_ => ?_)))))
   refine zs ?_
   refine T.cond_t rfl (T.region (z0 (V1.loadN (vs := feC z) one_82 sz_82 rfl (RdN.whole z_A) rfl) ?_))
   refine zc (T1.call0 has_106 rfl (fun w hs => Neg_any z w) (fun v hv => ?_))
   subst hv
   refine zc (T1.storeN rfl rfl sz_82 (ones rfl) z_H zr zr ?_)
   refine TL.nil ?_
   refine T.seq (T.drawTail 7 mixed z_F zr z_F rfl ?_)
   refine Det.cons 0 (zO 7 zZ) (fun e_ => .inl ⟨rfl, V1.t (V1.loadN (vs := feC (subF zeroF z)) one_82 sz_82 rfl (RdN.whole z_A) rfl) ⟨rfl, rfl⟩⟩) ?_
   refine Det.cons 1 (zO 5 zZ) (fun e_ => .inl ⟨rfl, V1.t (V1.loadN (vs := feC (LbF (leN (leF Q.y.val) % 2 ^ 255))) one_82 sz_82 rfl (RdN.whole z_A) rfl) ⟨rfl, rfl⟩⟩) ?_
   refine Det.cons 2 (ins := []) (v := feV oneF) .nil (fun e_ => .inl ⟨rfl, ?_⟩) ?_
   ·
    refine T1.call0 has_48 rfl (fun w hs => Small_any 1#32 w) (fun v hv => ?_)
    subst hv
    exact ⟨rfl, rfl⟩
   refine Det.cons 3 (zO 7 zZ) (fun e_ => .inl ⟨rfl, V1.t (V1.loadN (vs := feC (subF zeroF z)) one_82 sz_82 rfl (RdN.whole z_A) rfl) ⟨rfl, rfl⟩⟩) ?_
   refine Det.cons 4 (zO 5 zZ) (fun e_ => .inl ⟨rfl, V1.t (V1.loadN (vs := feC (LbF (leN (leF Q.y.val) % 2 ^ 255))) one_82 sz_82 rfl (RdN.whole z_A) rfl) ⟨rfl, rfl⟩⟩) ?_
   refine Det.cons 5 (v := feV (mulF (subF zeroF z) (LbF (leN (leF Q.y.val) % 2 ^ 255)))) (zN 55 3 rfl (zN 56 4 rfl zZ)) (fun e_ => .inl ⟨rfl, ?_⟩) ?_
   ·
    refine T1.call0 has_49 rfl (fun w hs => Mul_any (subF zeroF z) (LbF (leN (leF Q.y.val) % 2 ^ 255)) w) (fun v hv => ?_)
    subst hv
    exact ⟨rfl, rfl⟩
   refine zd 6 (zN 52 0 rfl (zN 53 1 rfl (zN 54 2 rfl (zN 57 5 rfl zZ)))) (V1.buildF pl_84 zr_84 (.many rfl z_C rfl (.many rfl z_C rfl (.many rfl z_C rfl (.many rfl z_C rfl .nil)))) z_I) ?_
   refine Det.nil 7 (zQ 2 (zR 58 6 rfl zW)) (fun e_ => ?_)
   refine (show TU _ _ _ 2 _ _ _ from ?_)
   refine TU.one 7 z_F rfl rfl (T1.storeN rfl rfl sz_84 (ones rfl) z_H zr zr ?_)
   refine TU.one 8 z_F rfl rfl (V1.t (V1.assign' z_C) ?_)
   refine TU.done z_F ?_
   refine T.ret ?_
   have hx2 : ((subF zeroF z)).norm ∧ ((subF zeroF z)).fe = Q.x := ⟨(neg_spec hzn).1, by rw [(neg_spec hzn).2, hzf, even_of' hod, neg_neg']⟩
   exact ⟨_, [], _, .cons (.cellN (vs := ptC ⟨(subF zeroF z), (LbF (leN (leF Q.y.val) % 2 ^ 255)), oneF, mulF (subF zeroF z) (LbF (leN (leF Q.y.val) % 2 ^ 255))⟩) z_C one_84 sz_84 (RdN.whole z_A) (by kernel_rfl)) (.cons (.tmp z_C) .nil), Take.nil, rfl, _, rfl, dec_pt hx2 hy⟩
noncomputable instance : DecidableEq (Pt crv) := fun _ _ => Classical.propDecidable _
theorem PEqual_any {A B : Pt crv} {p q : P4} (hp : PtR A p) (hq : PtR B q) (w : World) : Fn P 107 [ptV p, ptV q] w [] (fun v Y => Y = [] ∧ v = .bool (decide (A = B))) := by
 refine Fn.of 29 [.tmp 4] Go.Proofs.Tryz.func107 rfl rfl rfl rfl ?_
 refine zs ?_
 refine zc (T1.boxN (vs := ptC p) 20 rfl rfl (fun b2 => ?_))
 refine zc (T1.boxN (vs := ptC q) 20 rfl rfl (fun b3 => z1 ?_))
 refine T.seq ?_
 have he := pt_eq hp hq
 rcases (show (p.x.fe * q.z.fe = q.x.fe * p.z.fe ∧ p.y.fe * q.z.fe = q.y.fe * p.z.fe) ∨ (p.x.fe * q.z.fe = q.x.fe * p.z.fe ∧ ¬ p.y.fe * q.z.fe = q.y.fe * p.z.fe) ∨ (¬ p.x.fe * q.z.fe = q.x.fe * p.z.fe) from (Classical.em _).elim (fun h => (Classical.em _).elim (fun h2 => .inl ⟨h, h2⟩) fun h2 => .inr (.inl ⟨h, h2⟩)) fun h => .inr (.inr h)) with ⟨hX, hY⟩ | ⟨hX, hY⟩ | hX
 ·
  refine T.drawDet' mixed z_F ?_
  refine zd 0 (zO 2 zZ) (V1.fieldAddr fl_84_0 rfl) ?_
  refine Det.cons 1 (zN 5 0 rfl zZ) (fun e_ => .inl ⟨rfl, V1.t (V1.loadN (vs := feC p.x) one_82 sz_82 rfl (RdN.sub (o := 0) (k := 5) (cells := ptC p) z_A) rfl) ⟨rfl, rfl⟩⟩) ?_
  refine zd 2 (zO 3 zZ) (V1.fieldAddr fl_84_2 rfl) ?_
  refine Det.cons 3 (zN 7 2 rfl zZ) (fun e_ => .inl ⟨rfl, V1.t (V1.loadN (vs := feC q.z) one_82 sz_82 rfl (RdN.sub (o := 10) (k := 5) (cells := ptC q) z_A) rfl) ⟨rfl, rfl⟩⟩) ?_
  refine Det.cons 4 (v := feV (mulF p.x q.z)) (zN 6 1 rfl (zN 8 3 rfl zZ)) (fun e_ => .inl ⟨rfl, ?_⟩) ?_
  ·
   refine T1.call0 has_49 rfl (fun w hs => Mul_any p.x q.z w) (fun v hv => ?_)
   subst hv
   exact ⟨rfl, rfl⟩
  refine zd 5 (zO 3 zZ) (V1.fieldAddr fl_84_0 rfl) ?_
  refine Det.cons 6 (zN 10 5 rfl zZ) (fun e_ => .inl ⟨rfl, V1.t (V1.loadN (vs := feC q.x) one_82 sz_82 rfl (RdN.sub (o := 0) (k := 5) (cells := ptC q) z_A) rfl) ⟨rfl, rfl⟩⟩) ?_
  refine zd 7 (zO 2 zZ) (V1.fieldAddr fl_84_2 rfl) ?_
  refine Det.cons 8 (zN 12 7 rfl zZ) (fun e_ => .inl ⟨rfl, V1.t (V1.loadN (vs := feC p.z) one_82 sz_82 rfl (RdN.sub (o := 10) (k := 5) (cells := ptC p) z_A) rfl) ⟨rfl, rfl⟩⟩) ?_
  refine Det.cons 9 (v := feV (mulF q.x p.z)) (zN 11 6 rfl (zN 13 8 rfl zZ)) (fun e_ => .inl ⟨rfl, ?_⟩) ?_
  ·
   refine T1.call0 has_49 rfl (fun w hs => Mul_any q.x p.z w) (fun v hv => ?_)
   subst hv
   exact ⟨rfl, rfl⟩
  refine Det.cons 10 (v := .bool true) (zN 9 4 rfl (zN 14 9 rfl zZ)) (fun e_ => .inl ⟨rfl, ?_⟩) ?_
  ·
   refine T1.call0 has_126 rfl (fun w hs => FEqual_any (mulF p.x q.z) (mulF q.x p.z) w (mulF_spec hp.1.1 hq.1.2.2.1).1 (mulF_spec hq.1.1 hp.1.2.2.1).1) (fun v hv => ?_)
   rw [(mulF_spec hp.1.1 hq.1.2.2.1).2, (mulF_spec hq.1.1 hp.1.2.2.1).2, decide_eq_true hX] at hv
   subst hv
   exact ⟨rfl, rfl⟩
  refine zd 11 (zN 15 10 rfl zZ) (V1.move' z_C) ?_
  refine zd 12 (zO 2 (zN 16 11 rfl zZ)) (V1.fieldAddr fl_84_1 rfl) ?_
  refine Det.cons 13 (zN 16 11 rfl (zN 17 12 rfl zZ)) (fun e_ => .inl ⟨rfl, V1.t (V1.loadN (vs := feC p.y) one_82 sz_82 rfl (RdN.sub (o := 5) (k := 5) (cells := ptC p) z_A) rfl) ⟨rfl, rfl⟩⟩) ?_
  refine zd 14 (zO 3 (zN 16 11 rfl zZ)) (V1.fieldAddr fl_84_2 rfl) ?_
  refine Det.cons 15 (zN 16 11 rfl (zN 19 14 rfl zZ)) (fun e_ => .inl ⟨rfl, V1.t (V1.loadN (vs := feC q.z) one_82 sz_82 rfl (RdN.sub (o := 10) (k := 5) (cells := ptC q) z_A) rfl) ⟨rfl, rfl⟩⟩) ?_
  refine Det.cons 16 (v := feV (mulF p.y q.z)) (zN 16 11 rfl (zN 18 13 rfl (zN 20 15 rfl zZ))) (fun e_ => .inl ⟨rfl, ?_⟩) ?_
  ·
   refine T1.call0 has_49 rfl (fun w hs => Mul_any p.y q.z w) (fun v hv => ?_)
   subst hv
   exact ⟨rfl, rfl⟩
  refine zd 17 (zO 3 (zN 16 11 rfl zZ)) (V1.fieldAddr fl_84_1 rfl) ?_
  refine Det.cons 18 (zN 16 11 rfl (zN 22 17 rfl zZ)) (fun e_ => .inl ⟨rfl, V1.t (V1.loadN (vs := feC q.y) one_82 sz_82 rfl (RdN.sub (o := 5) (k := 5) (cells := ptC q) z_A) rfl) ⟨rfl, rfl⟩⟩) ?_
  refine zd 19 (zO 2 (zN 16 11 rfl zZ)) (V1.fieldAddr fl_84_2 rfl) ?_
  refine Det.cons 20 (zN 16 11 rfl (zN 24 19 rfl zZ)) (fun e_ => .inl ⟨rfl, V1.t (V1.loadN (vs := feC p.z) one_82 sz_82 rfl (RdN.sub (o := 10) (k := 5) (cells := ptC p) z_A) rfl) ⟨rfl, rfl⟩⟩) ?_
  refine Det.cons 21 (v := feV (mulF q.y p.z)) (zN 16 11 rfl (zN 23 18 rfl (zN 25 20 rfl zZ))) (fun e_ => .inl ⟨rfl, ?_⟩) ?_
  ·
   refine T1.call0 has_49 rfl (fun w hs => Mul_any q.y p.z w) (fun v hv => ?_)
   subst hv
   exact ⟨rfl, rfl⟩
  refine Det.cons 22 (v := .bool true) (zN 16 11 rfl (zN 21 16 rfl (zN 26 21 rfl zZ))) (fun e_ => .inl ⟨rfl, ?_⟩) ?_
  ·
   refine T1.call0 has_126 rfl (fun w hs => FEqual_any (mulF p.y q.z) (mulF q.y p.z) w (mulF_spec hp.1.2.1 hq.1.2.2.1).1 (mulF_spec hq.1.2.1 hp.1.2.2.1).1) (fun v hv => ?_)
   rw [(mulF_spec hp.1.2.1 hq.1.2.2.1).2, (mulF_spec hq.1.2.1 hp.1.2.2.1).2, decide_eq_true hY] at hv
   subst hv
   exact ⟨rfl, rfl⟩
  refine zd 23 (zN 16 11 rfl (zN 27 22 rfl zZ)) (V1.pick rfl z_C) ?_
  refine zd 24 (zN 28 23 rfl zZ) (V1.assign' z_C) ?_
  refine Det.nil 25 (zR 4 24 rfl zW) (fun e_ => ?_)
  refine T.ret ?_
  exact ⟨_, [], _, .cons (.tmp z_C) .nil, Take.nil, rfl, by rw [decide_eq_true (pt_same.2 ⟨he.1.2 hX, he.2.2 hY⟩)]; rfl⟩
 ·
  refine T.drawDet' mixed z_F ?_
  refine zd 0 (zO 2 zZ) (V1.fieldAddr fl_84_0 rfl) ?_
  refine Det.cons 1 (zN 5 0 rfl zZ) (fun e_ => .inl ⟨rfl, V1.t (V1.loadN (vs := feC p.x) one_82 sz_82 rfl (RdN.sub (o := 0) (k := 5) (cells := ptC p) z_A) rfl) ⟨rfl, rfl⟩⟩) ?_
  refine zd 2 (zO 3 zZ) (V1.fieldAddr fl_84_2 rfl) ?_
  refine Det.cons 3 (zN 7 2 rfl zZ) (fun e_ => .inl ⟨rfl, V1.t (V1.loadN (vs := feC q.z) one_82 sz_82 rfl (RdN.sub (o := 10) (k := 5) (cells := ptC q) z_A) rfl) ⟨rfl, rfl⟩⟩) ?_
  refine Det.cons 4 (v := feV (mulF p.x q.z)) (zN 6 1 rfl (zN 8 3 rfl zZ)) (fun e_ => .inl ⟨rfl, ?_⟩) ?_
  ·
   refine T1.call0 has_49 rfl (fun w hs => Mul_any p.x q.z w) (fun v hv => ?_)
   subst hv
   exact ⟨rfl, rfl⟩
  refine zd 5 (zO 3 zZ) (V1.fieldAddr fl_84_0 rfl) ?_
  refine Det.cons 6 (zN 10 5 rfl zZ) (fun e_ => .inl ⟨rfl, V1.t (V1.loadN (vs := feC q.x) one_82 sz_82 rfl (RdN.sub (o := 0) (k := 5) (cells := ptC q) z_A) rfl) ⟨rfl, rfl⟩⟩) ?_
  refine zd 7 (zO 2 zZ) (V1.fieldAddr fl_84_2 rfl) ?_
  refine Det.cons 8 (zN 12 7 rfl zZ) (fun e_ => .inl ⟨rfl, V1.t (V1.loadN (vs := feC p.z) one_82 sz_82 rfl (RdN.sub (o := 10) (k := 5) (cells := ptC p) z_A) rfl) ⟨rfl, rfl⟩⟩) ?_
  refine Det.cons 9 (v := feV (mulF q.x p.z)) (zN 11 6 rfl (zN 13 8 rfl zZ)) (fun e_ => .inl ⟨rfl, ?_⟩) ?_
  ·
   refine T1.call0 has_49 rfl (fun w hs => Mul_any q.x p.z w) (fun v hv => ?_)
   subst hv
   exact ⟨rfl, rfl⟩
  refine Det.cons 10 (v := .bool true) (zN 9 4 rfl (zN 14 9 rfl zZ)) (fun e_ => .inl ⟨rfl, ?_⟩) ?_
  ·
   refine T1.call0 has_126 rfl (fun w hs => FEqual_any (mulF p.x q.z) (mulF q.x p.z) w (mulF_spec hp.1.1 hq.1.2.2.1).1 (mulF_spec hq.1.1 hp.1.2.2.1).1) (fun v hv => ?_)
   rw [(mulF_spec hp.1.1 hq.1.2.2.1).2, (mulF_spec hq.1.1 hp.1.2.2.1).2, decide_eq_true hX] at hv
   subst hv
   exact ⟨rfl, rfl⟩
  refine zd 11 (zN 15 10 rfl zZ) (V1.move' z_C) ?_
  refine zd 12 (zO 2 (zN 16 11 rfl zZ)) (V1.fieldAddr fl_84_1 rfl) ?_
  refine Det.cons 13 (zN 16 11 rfl (zN 17 12 rfl zZ)) (fun e_ => .inl ⟨rfl, V1.t (V1.loadN (vs := feC p.y) one_82 sz_82 rfl (RdN.sub (o := 5) (k := 5) (cells := ptC p) z_A) rfl) ⟨rfl, rfl⟩⟩) ?_
  refine zd 14 (zO 3 (zN 16 11 rfl zZ)) (V1.fieldAddr fl_84_2 rfl) ?_
  refine Det.cons 15 (zN 16 11 rfl (zN 19 14 rfl zZ)) (fun e_ => .inl ⟨rfl, V1.t (V1.loadN (vs := feC q.z) one_82 sz_82 rfl (RdN.sub (o := 10) (k := 5) (cells := ptC q) z_A) rfl) ⟨rfl, rfl⟩⟩) ?_
  refine Det.cons 16 (v := feV (mulF p.y q.z)) (zN 16 11 rfl (zN 18 13 rfl (zN 20 15 rfl zZ))) (fun e_ => .inl ⟨rfl, ?_⟩) ?_
  ·
   refine T1.call0 has_49 rfl (fun w hs => Mul_any p.y q.z w) (fun v hv => ?_)
   subst hv
   exact ⟨rfl, rfl⟩
  refine zd 17 (zO 3 (zN 16 11 rfl zZ)) (V1.fieldAddr fl_84_1 rfl) ?_
  refine Det.cons 18 (zN 16 11 rfl (zN 22 17 rfl zZ)) (fun e_ => .inl ⟨rfl, V1.t (V1.loadN (vs := feC q.y) one_82 sz_82 rfl (RdN.sub (o := 5) (k := 5) (cells := ptC q) z_A) rfl) ⟨rfl, rfl⟩⟩) ?_
  refine zd 19 (zO 2 (zN 16 11 rfl zZ)) (V1.fieldAddr fl_84_2 rfl) ?_
  refine Det.cons 20 (zN 16 11 rfl (zN 24 19 rfl zZ)) (fun e_ => .inl ⟨rfl, V1.t (V1.loadN (vs := feC p.z) one_82 sz_82 rfl (RdN.sub (o := 10) (k := 5) (cells := ptC p) z_A) rfl) ⟨rfl, rfl⟩⟩) ?_
  refine Det.cons 21 (v := feV (mulF q.y p.z)) (zN 16 11 rfl (zN 23 18 rfl (zN 25 20 rfl zZ))) (fun e_ => .inl ⟨rfl, ?_⟩) ?_
  ·
   refine T1.call0 has_49 rfl (fun w hs => Mul_any q.y p.z w) (fun v hv => ?_)
   subst hv
   exact ⟨rfl, rfl⟩
  refine Det.cons 22 (v := .bool false) (zN 16 11 rfl (zN 21 16 rfl (zN 26 21 rfl zZ))) (fun e_ => .inl ⟨rfl, ?_⟩) ?_
  ·
   refine T1.call0 has_126 rfl (fun w hs => FEqual_any (mulF p.y q.z) (mulF q.y p.z) w (mulF_spec hp.1.2.1 hq.1.2.2.1).1 (mulF_spec hq.1.2.1 hp.1.2.2.1).1) (fun v hv => ?_)
   rw [(mulF_spec hp.1.2.1 hq.1.2.2.1).2, (mulF_spec hq.1.2.1 hp.1.2.2.1).2, decide_eq_false hY] at hv
   subst hv
   exact ⟨rfl, rfl⟩
  refine zd 23 (zN 16 11 rfl (zN 27 22 rfl zZ)) (V1.pick rfl z_C) ?_
  refine zd 24 (zN 28 23 rfl zZ) (V1.assign' z_C) ?_
  refine Det.nil 25 (zR 4 24 rfl zW) (fun e_ => ?_)
  refine T.ret ?_
  exact ⟨_, [], _, .cons (.tmp z_C) .nil, Take.nil, rfl, by rw [decide_eq_false (fun h => hY (he.2.1 (pt_same.1 h).2))]; rfl⟩
 ·
  refine T.drawDet' mixed z_F ?_
  refine zd 0 (zO 2 zZ) (V1.fieldAddr fl_84_0 rfl) ?_
  refine Det.cons 1 (zN 5 0 rfl zZ) (fun e_ => .inl ⟨rfl, V1.t (V1.loadN (vs := feC p.x) one_82 sz_82 rfl (RdN.sub (o := 0) (k := 5) (cells := ptC p) z_A) rfl) ⟨rfl, rfl⟩⟩) ?_
  refine zd 2 (zO 3 zZ) (V1.fieldAddr fl_84_2 rfl) ?_
  refine Det.cons 3 (zN 7 2 rfl zZ) (fun e_ => .inl ⟨rfl, V1.t (V1.loadN (vs := feC q.z) one_82 sz_82 rfl (RdN.sub (o := 10) (k := 5) (cells := ptC q) z_A) rfl) ⟨rfl, rfl⟩⟩) ?_
  refine Det.cons 4 (v := feV (mulF p.x q.z)) (zN 6 1 rfl (zN 8 3 rfl zZ)) (fun e_ => .inl ⟨rfl, ?_⟩) ?_
  ·
   refine T1.call0 has_49 rfl (fun w hs => Mul_any p.x q.z w) (fun v hv => ?_)
   subst hv
   exact ⟨rfl, rfl⟩
  refine zd 5 (zO 3 zZ) (V1.fieldAddr fl_84_0 rfl) ?_
  refine Det.cons 6 (zN 10 5 rfl zZ) (fun e_ => .inl ⟨rfl, V1.t (V1.loadN (vs := feC q.x) one_82 sz_82 rfl (RdN.sub (o := 0) (k := 5) (cells := ptC q) z_A) rfl) ⟨rfl, rfl⟩⟩) ?_
  refine zd 7 (zO 2 zZ) (V1.fieldAddr fl_84_2 rfl) ?_
  refine Det.cons 8 (zN 12 7 rfl zZ) (fun e_ => .inl ⟨rfl, V1.t (V1.loadN (vs := feC p.z) one_82 sz_82 rfl (RdN.sub (o := 10) (k := 5) (cells := ptC p) z_A) rfl) ⟨rfl, rfl⟩⟩) ?_
  refine Det.cons 9 (v := feV (mulF q.x p.z)) (zN 11 6 rfl (zN 13 8 rfl zZ)) (fun e_ => .inl ⟨rfl, ?_⟩) ?_
  ·
   refine T1.call0 has_49 rfl (fun w hs => Mul_any q.x p.z w) (fun v hv => ?_)
   subst hv
   exact ⟨rfl, rfl⟩
  refine Det.cons 10 (v := .bool false) (zN 9 4 rfl (zN 14 9 rfl zZ)) (fun e_ => .inl ⟨rfl, ?_⟩) ?_
  ·
   refine T1.call0 has_126 rfl (fun w hs => FEqual_any (mulF p.x q.z) (mulF q.x p.z) w (mulF_spec hp.1.1 hq.1.2.2.1).1 (mulF_spec hq.1.1 hp.1.2.2.1).1) (fun v hv => ?_)
   rw [(mulF_spec hp.1.1 hq.1.2.2.1).2, (mulF_spec hq.1.1 hp.1.2.2.1).2, decide_eq_false hX] at hv
   subst hv
   exact ⟨rfl, rfl⟩
  refine zd 11 (zN 15 10 rfl zZ) (V1.move' z_C) ?_
  refine Det.cons 12 (zN 16 11 rfl zZ) (fun e_ => .inr ⟨rfl, rfl⟩) ?_
  refine Det.cons 13 (zN 16 11 rfl zZ) (fun e_ => .inr ⟨rfl, rfl⟩) ?_
  refine Det.cons 14 (zN 16 11 rfl zZ) (fun e_ => .inr ⟨rfl, rfl⟩) ?_
  refine Det.cons 15 (zN 16 11 rfl zZ) (fun e_ => .inr ⟨rfl, rfl⟩) ?_
  refine Det.cons 16 (zN 16 11 rfl zZ) (fun e_ => .inr ⟨rfl, rfl⟩) ?_
  refine Det.cons 17 (zN 16 11 rfl zZ) (fun e_ => .inr ⟨rfl, rfl⟩) ?_
  refine Det.cons 18 (zN 16 11 rfl zZ) (fun e_ => .inr ⟨rfl, rfl⟩) ?_
  refine Det.cons 19 (zN 16 11 rfl zZ) (fun e_ => .inr ⟨rfl, rfl⟩) ?_
  refine Det.cons 20 (zN 16 11 rfl zZ) (fun e_ => .inr ⟨rfl, rfl⟩) ?_
  refine Det.cons 21 (zN 16 11 rfl zZ) (fun e_ => .inr ⟨rfl, rfl⟩) ?_
  refine Det.cons 22 (zN 16 11 rfl zZ) (fun e_ => .inr ⟨rfl, rfl⟩) ?_
  refine zd 23 (zN 16 11 rfl (zN 27 22 rfl zZ)) (V1.pick rfl z_C) ?_
  refine zd 24 (zN 28 23 rfl zZ) (V1.assign' z_C) ?_
  refine Det.nil 25 (zR 4 24 rfl zW) (fun e_ => ?_)
  refine T.ret ?_
  exact ⟨_, [], _, .cons (.tmp z_C) .nil, Take.nil, rfl, by rw [decide_eq_false (fun h => hX (he.1.1 (pt_same.1 h).1))]; rfl⟩
theorem smul8 (A : Pt crv) : Pt.smul 8 A = ((A.add A).add (A.add A)).add ((A.add A).add (A.add A)) := by
 rw [show (8 : Nat) = 2 * (2 * 2) from rfl, Pt.smul_mul, Pt.smul_mul]
 have two : ∀ B : Pt crv, Pt.smul 2 B = B.add B := fun B => by rw [show (2 : Nat) = 1 + 1 from rfl, Pt.smul_add]; simp only [Pt.smul, Pt.zero_add, Pt.add_zero]
 rw [two, two, two]
theorem Tiny_any {A : Pt crv} {p : P4} (hp : PtR A p) (w : World) : Fn P 61 [ptV p] w [] (fun v Y => Y = [] ∧ v = .bool (decide (Pt.smul 8 A = Pt.zero crv))) := by
 refine Fn.of 9 [.tmp 2] Go.Proofs.Tryz.func61 rfl rfl rfl rfl ?_
 refine zs ?_
 refine zc (T1.boxN (vs := ptC p) 20 rfl rfl (fun b1 => zs ?_))
 refine z0 (V1.loadN one_84 sz_84 rfl (RdN.whole z_A) zr) ?_
 refine zc (T1.call0 has_52 rfl (fun w hs => Ptwice_any hp w) (fun v hv => ?_))
 obtain ⟨p2, rfl, h2⟩ := hv
 refine zc (T1.call0 has_52 rfl (fun w hs => Ptwice_any h2 w) (fun v hv => ?_))
 obtain ⟨p4, rfl, h4⟩ := hv
 refine zc (T1.call0 has_52 rfl (fun w hs => Ptwice_any h4 w) (fun v hv => ?_))
 obtain ⟨p8, rfl, h8⟩ := hv
 refine zc (T1.call0 has_50 rfl (fun w hs => PZero_any w) (fun v hv => ?_))
 subst hv
 refine zc (T1.call0 has_107 rfl (fun w hs => PEqual_any h8 zero_pt w) (fun v hv => ?_))
 subst hv
 refine zs ?_
 exact ⟨_, [], _, .cons (.tmp z_C) .nil, Take.nil, rfl, by rw [smul8]; rfl⟩
end Go.Proofs.YtfjedhmffccgnaaGreatDoor.S
