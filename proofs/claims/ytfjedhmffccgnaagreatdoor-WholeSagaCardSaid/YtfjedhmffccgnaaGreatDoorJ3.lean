/- Changes as signed frames. -/
import Derived.Test.YtfjedhmffccgnaaGreatDoorJ2
import Derived.Test.YtfjedhmffccgnaaGreatDoorI3
import Derived.Test.YtfjedhmffccgnaaGreatDoorFr1
namespace Go.Proofs.YtfjedhmffccgnaaGreatDoor.S
set_option maxRecDepth 100000
open Go.RowKit
open Ed Sh
def chgL : List UInt8 := [115, 105, 103, 110, 101, 116, 32, 99, 104, 97, 110, 103, 101]
def epoL : List UInt8 := [115, 105, 103, 110, 101, 116, 32, 101, 112, 111, 99, 104]
def sig0 : List UInt8 := List.replicate 64 0
def frB (h sg ag sig : List UInt8) (op by_ to : Nat) : List UInt8 := UInt8.ofNat 6 :: ([h, sg, ag].flatten ++ ([op, by_, to].flatMap be32 ++ ([sig].flatten ++ (be32 0 ++ []))))
theorem frB_len {h sg ag sig : List UInt8} {op by_ to : Nat} (h1 : h.length = 32) (h2 : sg.length = 32) (h3 : ag.length = 32) (h4 : sig.length = 64) : (frB h sg ag sig op by_ to).length = 177 := by
 unfold frB; simp [h1, h2, h3, h4, be32]
theorem enc_ch (h sg ag sig : List UInt8) (op by_ to : Nat) : encF 6 [h, sg, ag] [op, by_, to] [sig] [] = .ok (frB h sg ag sig op by_ to) := rfl
attribute [irreducible] frB
abbrev frC (bk bn bs : Nat) : List Value := [.int .i64 6, .slice (some ⟨bk, 0, none⟩) 3 3, .slice (some ⟨bn, 0, none⟩) 3 3, .slice (some ⟨bs, 0, none⟩) 1 1, .slice none 0 0]
structure FrP (Ps : List Blk) (bk bn bs : Nat) (h sg ag sig : List UInt8) (op by_ to : Nat) : Prop where
  k : (⟨⟨bk, some 36⟩, 0, [h, sg, ag].flatten.map byteV, 96⟩ : Blk) ∈ Ps
  n : (⟨bn, 0, [u32V op, u32V by_, u32V to], 3⟩ : Blk) ∈ Ps
  s : (⟨⟨bs, some 74⟩, 0, sig.map byteV, 64⟩ : Blk) ∈ Ps
theorem FrP.more {Ps Qs : List Blk} {bk bn bs : Nat} {h sg ag sig : List UInt8} {op by_ to : Nat} (H : FrP Ps bk bn bs h sg ag sig op by_ to) (hi : Inc Ps Qs) : FrP Qs bk bn bs h sg ag sig op by_ to := ⟨hi _ H.k, hi _ H.n, hi _ H.s⟩
theorem blk_slr {w0 w : World} {L : List Blk} {b k n size : Nat} {tg : Option TypeId} {vs : List Value} (hs : St w0 [] L w) (hB : (⟨⟨b, tg⟩, 0, vs, size⟩ : Blk) ∈ L) (hl : vs.length = n * k) (P : Program) : SlR w (.slice (some ⟨b, 0, none⟩) n n) k n vs :=
 .inr ⟨b, 0, n, rfl, Nat.le_refl _, hl, RdN.cells (C := ⟨P, w0, [], 0⟩) (RdN.at0 (Find.of_mem hB)) hs⟩
theorem Enc_any (w0 : World) (Ps : List Blk) {bk bn bs : Nat} {h sg ag sig : List UInt8} {op by_ to : Nat} (H : FrP Ps bk bn bs h sg ag sig op by_ to) (h1 : h.length = 32) (h2 : sg.length = 32) (h3 : ag.length = 32) (h4 : sig.length = 64) (n1 : op < 4294967296) (n2 : by_ < 4294967296) (n3 : to < 4294967296) :
 FnG P 20 [.agg (frC bk bn bs).toArray] w0 Ps [] (fun v Y => ∃ s, v = .tuple #[s, .int .i64 0] ∧ Sl s ((frB h sg ag sig op by_ to).map byteV) 1 Y) := fun G w hG hs => by
 have key := Encode_any 6 [h, sg, ag] [op, by_, to] [sig] [] (.slice (some ⟨bk, 0, none⟩) 3 3) (.slice (some ⟨bn, 0, none⟩) 3 3) (.slice (some ⟨bs, 0, none⟩) 1 1) (.slice none 0 0) w
  (blk_slr hs (hG _ H.k) (by simp [h1, h2, h3]) P) (by intro x hx; simp only [List.mem_cons, List.not_mem_nil, or_false] at hx; rcases hx with rfl | rfl | rfl <;> assumption)
  (blk_slr hs (hG _ H.n) rfl P) (by intro x hx; simp only [List.mem_cons, List.not_mem_nil, or_false] at hx; rcases hx with rfl | rfl | rfl <;> assumption)
  (by have := blk_slr (n := 1) (k := 64) hs (hG _ H.s) (by rw [List.length_map, h4]) P; simpa using this) (by intro x hx; simp only [List.mem_cons, List.not_mem_nil, or_false] at hx; rcases hx with rfl; exact h4) (.inl ⟨.inl rfl, rfl, rfl⟩)
 refine (key (by simp) (by simp)).mono fun _ _ ⟨v, Y, e1, e2, e3⟩ => ⟨v, Y, e1, hs.call_add e2, ?_⟩
 unfold encR at e3
 rw [enc_ch] at e3
 exact e3
theorem CloneB_nil (w : World) : Fn P 21 [.slice none 0 0] w [] (fun v Y => Y = [] ∧ v = .slice none 0 0) := by
 refine Fn.of 8 [.tmp 2] Go.Proofs.Tryz.func21 rfl rfl rfl rfl ?_
 refine zs ?_
 refine z0 (V1.eqSlNil ty_44 rfl rfl) ?_
 refine TL.nil ?_
 refine T.cond_t rfl (zs ?_)
 exact ⟨_, [], _, .cons (.tmp z_C) .nil, Take.nil, rfl, rfl⟩
theorem chg_parts {w0 : World} {Ye : List Blk} {b49 b46 : Nat} {s : Value} {l : List UInt8} (hsl : Sl s (l.map byteV) 1 Ye) : PartsR w0 ([⟨b49, 0, [.slice (some ⟨b46, 0, none⟩) 13 13, s], 2⟩, ⟨b46, 0, chgL.map byteV, 13⟩] ++ Ye) (.slice (some ⟨b49, 0, none⟩) 2 2) [chgL, l] :=
 PartsR.ones (size := 2) (List.mem_cons_self ..) rfl (two_part (RowR.part (n := 13) rfl (RowR.own (size := 13) (tg := none) (List.mem_cons_of_mem _ (List.mem_cons_self ..)) rfl)) (PartR.own hsl (fun B hB => List.mem_cons_of_mem _ (List.mem_cons_of_mem _ hB))))
set_option maxHeartbeats 2000000 in
theorem RMake_any (w0 : World) (e : Nat) {v : Value} {h sg ag seed : List UInt8} {op by_ to : Nat} (h1 : h.length = 32) (h2 : sg.length = 32) (h3 : ag.length = 32) (hsd : seed.length = 32) (n1 : op < 4294967296) (n2 : by_ < 4294967296) (n3 : to < 4294967296) (hv1 : one v = true) : FnG P 5 [.agg (rosC e h v).toArray, .agg ((seed).map byteV).toArray, .agg (stpC op by_ to sg ag (.slice none 0 0)).toArray] w0 [] [] (fun u Y => ∃ bk bn bs, u = .tuple #[.agg (frC bk bn bs).toArray, .int .i64 0] ∧ FrP Y bk bn bs h sg ag (sigL seed (chgL ++ (frB h sg ag sig0 op by_ to))) op by_ to) := by
 refine FnG.of 53 [.cell 6 46, .tmp 7] Go.Proofs.Tryz.func5 rfl rfl rfl rfl (fun G hG => ?_)
 refine zs ?_
 refine zc (T1.boxN (vs := rosC e h v) 34 rfl (rosC_len h1) (fun b3 => ?_))
 refine zc (T1.boxN (vs := (seed).map byteV) 32 rfl (by rw [List.length_map, hsd]) (fun b4 => ?_))
 refine zc (T1.boxN (vs := stpC op by_ to sg ag (.slice none 0 0)) 68 rfl (stpC_len h2 h3) (fun b5 => ?_))
 refine zc (T1.allocN 5 zr_46 rfl (fun b6 => zs ?_))
 refine z0 (V1.fieldAddr fl_40_1 rfl) ?_
 refine z0 (V1.loadN (vs := (h).map byteV) one_36 sz_36 rfl (show RdN _ _ ⟨b3, 0 + 1, none⟩ _ from by rw [← ros_h (e := e) (v := v) h1]; exact RdN.sub z_A) (by rw [List.length_map, h1])) ?_
 refine z0 (V1.fieldAddr fl_51_3 rfl) ?_
 refine z0 (V1.loadN (vs := (sg).map byteV) one_36 sz_36 rfl (show RdN _ _ ⟨b5, 0 + 3, none⟩ _ from by rw [← stp_sg (op := op) (by_ := by_) (to := to) (ag := ag) (v := .slice none 0 0) h2]; exact RdN.sub z_A) (by rw [List.length_map, h2])) ?_
 refine z0 (V1.fieldAddr fl_51_4 rfl) ?_
 refine z0 (V1.loadN (vs := (ag).map byteV) one_36 sz_36 rfl (show RdN _ _ ⟨b5, 0 + 35, none⟩ _ from by rw [← stp_ag (op := op) (by_ := by_) (to := to) (v := .slice none 0 0) h2 h3]; exact RdN.sub z_A) (by rw [List.length_map, h3])) ?_
 refine zc (T1.buildMany (vss := [h.map byteV, sg.map byteV, ag.map byteV]) (os := [.tmp 12, .tmp 14, .tmp 16]) ty_41 sz_36 zr_36 ze rfl (.cons z_C (.cons z_C (.cons z_C .nil))) rfl (by intro l hl; simp only [List.mem_cons, List.not_mem_nil, or_false] at hl; rcases hl with rfl | rfl | rfl; rw [List.length_map, h1]; rw [List.length_map, h2]; rw [List.length_map, h3]) (fun b17 => ?_))
 rw [show [h.map byteV, sg.map byteV, ag.map byteV].flatten = [h, sg, ag].flatten.map byteV from by simp]
 refine z0 (V1.fieldAddr fl_51_0 rfl) ?_
 refine z0 (V1.load1 one_37 rfl (show Rd _ _ ⟨b5, 0 + 0, none⟩ (u32V op) from Rd.at (cells := stpC op by_ to sg ag (.slice none 0 0)) z_A rfl)) ?_
 refine z0 (V1.fieldAddr fl_51_1 rfl) ?_
 refine z0 (V1.load1 one_37 rfl (show Rd _ _ ⟨b5, 0 + 1, none⟩ (u32V by_) from Rd.at (cells := stpC op by_ to sg ag (.slice none 0 0)) z_A rfl)) ?_
 refine z0 (V1.fieldAddr fl_51_2 rfl) ?_
 refine z0 (V1.load1 one_37 rfl (show Rd _ _ ⟨b5, 0 + 2, none⟩ (u32V to) from Rd.at (cells := stpC op by_ to sg ag (.slice none 0 0)) z_A rfl)) ?_
 refine zc (T1.buildSl1 (os := [.tmp 19, .tmp 21, .tmp 23]) (vs := [u32V op, u32V by_, u32V to]) ty_42 sz_37 zr_37 ze rfl (.cons z_C (.cons z_C (.cons z_C .nil))) rfl (ones rfl) (fun b24 => ?_))
 refine z0 (V1.buildA0 ty_74 sz_5 zr_74) ?_
 refine zc (T1.buildOne (cs := sig0.map byteV) ty_43 sz_74 zr_74 ze z_C zr (fun b26 => ?_))
 refine z0 (V1.fieldAddr fl_51_5 rfl) ?_
 refine z0 (V1.load1 one_44 rfl (show Rd _ _ ⟨b5, 0 + 67, none⟩ (.slice none 0 0) from Rd.at (cells := stpC op by_ to sg ag (.slice none 0 0)) z_A (stp_v h2 h3))) ?_
 refine z0 (V1.buildF pl_46 zr_46 (.one rfl z_C rfl (.one rfl z_C rfl (.one rfl z_C rfl (.one rfl z_C rfl (.one rfl z_C rfl .nil))))) z_I) ?_
 refine zc (T1.allocN 5 zr_46 rfl (fun b8 => ?_))
 refine zc (T1.storeN rfl rfl sz_46 (ones rfl) z_H zr zr ?_)
 refine TL.nil ?_
 refine T.seq (T.live (l := [(4, _), (5, _), (6, _), (8, _)]) zT (fun e_ => ?_))
 refine T.region (z0 (V1.loadN one_46 sz_46 rfl (RdN.whole z_A) zr) ?_)
 refine zc (T1.callC (Ps := [⟨⟨b17, some 36⟩, 0, [h, sg, ag].flatten.map byteV, 96⟩, ⟨b24, 0, [u32V op, u32V by_, u32V to], 3⟩, ⟨⟨b26, some 74⟩, 0, (sig0).map byteV, 64⟩]) has_20 rfl rfl (Enc_any w0 _ (h := h) (sg := sg) (ag := ag) (sig := sig0) (op := op) (by_ := by_) (to := to) (bk := b17) (bn := b24) (bs := b26) ⟨by simp, by simp, by simp⟩ h1 h2 h3 zr n1 n2 n3) z_D (fun v_ Ye hv => ?_))
 obtain ⟨s, rfl, hsl⟩ := hv
 refine zs ?_
 refine z0 (V1.neI rfl rfl (decide_eq_false zw)) ?_
 refine TL.nil ?_
 refine T.cond_f rfl (zs ?_)
 refine z0 (V1.fieldAddr fl_51_5 rfl) ?_
 refine z0 (V1.load1 one_44 rfl (show Rd _ _ ⟨b5, 0 + 67, none⟩ (.slice none 0 0) from Rd.at (cells := stpC op by_ to sg ag (.slice none 0 0)) z_A (stp_v h2 h3))) ?_
 refine zc (T1.call0 has_21 rfl (fun w hs => CloneB_nil w) (fun v hv => ?_))
 subst hv
 refine z0 (V1.fieldAddr fl_46_4 rfl) ?_
 refine zc (T1.store1 rfl rfl sz_44 rfl z_H (Nat.zero_le _) z_K ?_)
 refine TL.nil ?_
 refine T.seq (T.drawK (fun L_ => Find L_ ⟨b8, 0, frC b17 b24 b26, 5⟩ ∧ Find L_ ⟨b4, 0, seed.map byteV, 32⟩) mixed ⟨z_A, z_A⟩ ?_)
 refine zk 0 rfl (fun ⟨k1_, k2_⟩ => V1.fieldAddr fl_46_3 rfl) ?_
 refine zk 1 rfl (fun ⟨k1_, k2_⟩ => V1.load1 (v := .slice (some ⟨b26, 0, none⟩) 1 1) one_43 rfl (show Rd _ _ ⟨b8, 0 + 3, none⟩ _ from Rd.at (cells := frC b17 b24 b26) z_A rfl)) ?_
 refine zk 2 rfl (fun ⟨k1_, k2_⟩ => V1.loadN (vs := seed.map byteV) one_36 sz_36 rfl (RdN.whole z_A) (by rw [List.length_map, hsd])) ?_
 refine zk 5 rfl (fun ⟨k1_, k2_⟩ => V1.move' z_C) ?_
 refine zo 3 rfl rfl (T1.buildSl1 (os := (chgL.map byteV).map Operand.const) (vs := chgL.map byteV) ty_44 sz_5 zr_5 ze (by kernel_rfl) (EvsP.consts _) rfl (one_bytes _) (fun b46 => ?_))
 refine ⟨⟨z_A, z_A⟩, zo 4 rfl rfl (T1.convLit ty_44 ty_5 rfl z_H ?_)⟩
 refine ⟨⟨z_A, z_A⟩, zo 6 rfl rfl (T1.buildSl1 (os := [.tmp 47, .tmp 48]) (vs := [.slice (some ⟨b46, 0, none⟩) 13 13, s]) ty_115 sz_44 zr_44 ze rfl (.cons z_C (.cons z_C .nil)) rfl (by intro u hu; simp only [List.mem_cons, List.not_mem_nil, or_false] at hu; rcases hu with rfl | rfl; rfl; exact hsl.one) (fun b49 => ?_))⟩
 refine ⟨⟨z_A, z_A⟩, zo 7 rfl rfl (T1.callV has_22 rfl rfl (Make_any w0 ([⟨b49, 0, [.slice (some ⟨b46, 0, none⟩) 13 13, s], 2⟩, ⟨b46, 0, chgL.map byteV, 13⟩] ++ Ye) seed hsd [chgL, (frB h sg ag sig0 op by_ to)] (chgL ++ (frB h sg ag sig0 op by_ to)) (by simp) (by rw [List.length_append, frB_len h1 h2 h3 (by rfl)]; decide) (chg_parts hsl) (Nat.le_of_ble_eq_true rfl)) z_D (fun v_ hv => ?_))⟩
 obtain rfl := hv
 refine ⟨⟨z_A, z_A⟩, zk 8 rfl (fun ⟨k1_, k2_⟩ => V1.indexAddrS ty_43 sz_74 rfl rfl ze zw) ?_⟩
 refine zo 9 rfl rfl (T1.storeN rfl rfl sz_74 (one_bytes _) z_H (by rw [List.length_map, sigL_len]; rfl) (by rw [List.length_map, sigL_len]) ?_)
 refine ⟨⟨z_A, z_A⟩, TD.done z_F ?_⟩
 refine T.seq (T.live (l := [(6, _), (8, _)]) zT (fun e_ => ?_))
 refine T.region (z0 (V1.loadN (vs := frC b17 b24 b26) one_46 sz_46 rfl (RdN.whole z_A) rfl) ?_)
 refine zc (T1.storeN rfl rfl sz_46 (ones rfl) z_H zr zr ?_)
 refine zs ?_
 exact ⟨_, ⟨⟨b17, some 36⟩, 0, [h, sg, ag].flatten.map byteV, 96⟩ :: ⟨b24, 0, [u32V op, u32V by_, u32V to], 3⟩ :: ⟨⟨b26, some 74⟩, 0, (sigL seed (chgL ++ (frB h sg ag sig0 op by_ to))).map byteV, 64⟩ :: G, _, .cons (.cellN (vs := frC b17 b24 b26) z_C one_46 sz_46 (RdN.whole z_A) rfl) (.cons (.tmp z_C) .nil), z_B, [⟨⟨b17, some 36⟩, 0, [h, sg, ag].flatten.map byteV, 96⟩, ⟨b24, 0, [u32V op, u32V by_, u32V to], 3⟩, ⟨⟨b26, some 74⟩, 0, (sigL seed (chgL ++ (frB h sg ag sig0 op by_ to))).map byteV, 64⟩], rfl, b17, b24, b26, rfl, by simp, by simp, by simp⟩
end Go.Proofs.YtfjedhmffccgnaaGreatDoor.S
