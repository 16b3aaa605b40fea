/- Numbers as 32 bytes. -/
import Derived.Test.YtfjedhmffccgnaaGreatDoorF3
namespace Go.Proofs.YtfjedhmffccgnaaGreatDoor.S
open Go.RowKit
open Ed
theorem carried_to {x y : L5} (h : y = x.carried) (w : World) : Fn P 94 [feV x] w [] (fun v Y => Y = [] ∧ v = feV y) := by subst h; exact carried_any x w
theorem fin_cells {x z y : L5} (hx : x.norm) (hz : z = x.carried) (hy : y = z.carried) : feC y.fin = (limbsF x.fe.val).map w64 := by
 subst hz; subst hy
 rw [L5.bytes_spec hx, limbsF_feC]; unfold LbF; rw [lock_eq]
theorem leF_none (n : Nat) : (leF (n % 2 ^ 0)).map byteV = List.replicate 32 (.int .u8 0) := by rw [leF_eq, Nat.pow_zero, Nat.mod_one]; rfl
set_option maxRecDepth 100000 in
set_option maxHeartbeats 2000000 in
theorem Bytes_any (x : L5) (w : World) (hx : x.norm) : Fn P 57 [feV x] w [] (fun v Y => Y = [] ∧ v = .agg ((leF x.fe.val).map byteV).toArray) := by
 obtain ⟨z, hz⟩ : ∃ z, z = x.carried := ⟨_, rfl⟩
 obtain ⟨y, hy⟩ : ∃ y, y = z.carried := ⟨_, rfl⟩
 refine Fn.of 78 [.cell 2 36] Go.Proofs.Tryz.func57 rfl rfl rfl rfl ?_
 refine zs ?_
 refine zc (T1.boxN 5 rfl rfl (fun b1 => ?_))
 refine zc (T1.allocN 32 zr_36 rfl (fun b2 => zs ?_))
 refine z0 (V1.loadN one_82 sz_82 rfl (RdN.whole z_A) zr) ?_
 refine zc (T1.call0 has_94 rfl (fun w hs => carried_to hz w) (fun v hv => ?_))
 subst hv
 refine zc (T1.call0 has_94 rfl (fun w hs => carried_to hy w) (fun v hv => ?_))
 subst hv
 refine zc (T1.storeN rfl rfl sz_82 (ones rfl) z_H zr zr ?_)
 refine TL.nil ?_
 refine T.seq (T.region (zq (V1.assign' (v := w64 19#64) rfl) ?_))
 refine z0 (V1.fieldAddr fl_82_0 rfl) ?_
 refine zq1 (V1.loadN one_80 sz_80 rfl (RdN.whole z_A) zr) ?_
 refine T.block (T.rounds 6 (TR.step ?_))
 refine zs ?_
 refine z0 (V1.ltI rfl rfl (decide_eq_true zw)) ?_
 ·
  refine zs ?_
  refine T.cond_t rfl (zs ?_)
  refine zq (V1.indexA ty_80 sz_79 rfl rfl ze ze (fun w => run_part1 one_79 zr w)) ?_
  refine z0 (V1.addW u64U rfl rfl) ?_
  refine zq1 (V1.shrW (k := 51) u64U rfl rfl) ?_
  refine T.live (l := [(1, _), (2, _), (3, _), (13, _), (14, _)]) zT (fun e_ => ?_)
  refine T.region (zq1 (V1.add (c := 1) rfl rfl ze) ?_)
  refine TR.step ?_
  refine zs ?_
  refine z0 (V1.ltI rfl rfl (decide_eq_true zw)) ?_
  ·
   refine zs ?_
   refine T.cond_t rfl (zs ?_)
   refine zq (V1.indexA ty_80 sz_79 rfl rfl ze ze (fun w => run_part1 one_79 zr w)) ?_
   refine z0 (V1.addW u64U rfl rfl) ?_
   refine zq (V1.shrW (k := 51) u64U rfl rfl) ?_
   refine zq1 (V1.add (c := 2) rfl rfl ze) ?_
   refine TR.step ?_
   refine zs ?_
   refine z0 (V1.ltI rfl rfl (decide_eq_true zw)) ?_
   ·
    refine zs ?_
    refine T.cond_t rfl (zs ?_)
    refine zq1 (V1.indexA ty_80 sz_79 rfl rfl ze ze (fun w => run_part1 one_79 zr w)) ?_
    refine T.live (l := [(1, _), (2, _), (3, _), (5, _), (13, _), (14, _)]) zT (fun e_ => ?_)
    refine zs ?_
    refine z0 (V1.addW u64U rfl rfl) ?_
    refine zq (V1.shrW (k := 51) u64U rfl rfl) ?_
    refine zq1 (V1.add (c := 3) rfl rfl ze) ?_
    refine TR.step ?_
    refine zs ?_
    refine z0 (V1.ltI rfl rfl (decide_eq_true zw)) ?_
    ·
     refine zs ?_
     refine T.cond_t rfl (zs ?_)
     refine zq (V1.indexA ty_80 sz_79 rfl rfl ze ze (fun w => run_part1 one_79 zr w)) ?_
     refine z0 (V1.addW u64U rfl rfl) ?_
     refine zq1 (V1.shrW (k := 51) u64U rfl rfl) ?_
     refine T.live (l := [(1, _), (2, _), (3, _), (13, _), (14, _)]) zT (fun e_ => ?_)
     refine T.region (zq1 (V1.add (c := 4) rfl rfl ze) ?_)
     refine TR.step ?_
     refine zs ?_
     refine z0 (V1.ltI rfl rfl (decide_eq_true zw)) ?_
     ·
      refine zs ?_
      refine T.cond_t rfl (zs ?_)
      refine zq (V1.indexA ty_80 sz_79 rfl rfl ze ze (fun w => run_part1 one_79 zr w)) ?_
      refine z0 (V1.addW u64U rfl rfl) ?_
      refine zq (V1.shrW (k := 51) u64U rfl rfl) ?_
      refine zq1 (V1.add (c := 5) rfl rfl ze) ?_
      refine TR.step ?_
      refine zs ?_
      refine z0 (V1.ltI rfl rfl (decide_eq_false zw)) ?_
      ·
       refine zs ?_
       refine T.cond_f rfl (zs ?_)
       refine z0 (V1.fieldAddr fl_82_0 rfl) ?_
       refine z0 (V1.indexAddrA ty_80 sz_79 rfl rfl ze ze) ?_
       refine zq (V1.load1 one_79 rfl (.own z_A zr)) ?_
       refine z0 (V1.mulW (a := 19#64) u64U rfl rfl) ?_
       refine z0 (V1.addW u64U rfl rfl) ?_
       refine z0 (V1.fieldAddr fl_82_0 rfl) ?_
       refine z0 (V1.indexAddrA ty_80 sz_79 rfl rfl ze ze) ?_
       refine zc (T1.store1 rfl rfl sz_79 rfl z_H (Nat.zero_le _) z_K ?_)
       refine TL.nil ?_
       refine T.seq (T.live (l := [(1, _), (2, _)]) zT (fun e_ => ?_))
       refine T.region (zq (V1.assign' (v := w64 0#64) rfl) ?_)
       refine zc (T1.allocN 32 zr_36 rfl (fun b6 => ?_))
       refine TL.nil ?_
       refine T.seq (T.seq (T.region (z1 ?_)))
       refine T.block (T.rounds 6 (TR.step ?_))
       refine zs ?_
       refine z0 (V1.ltI rfl rfl (decide_eq_true zw)) ?_
       ·
        refine zs ?_
        refine T.cond_t rfl (zs ?_)
        refine z0 (V1.fieldAddr fl_82_0 rfl) ?_
        refine z0 (V1.indexAddrA ty_80 sz_79 rfl rfl zw zw) ?_
        refine zq (V1.load1 one_79 rfl (.own z_A zr)) ?_
        refine z0 (V1.addW u64U rfl rfl) ?_
        refine z0 (V1.fieldAddr fl_82_0 rfl) ?_
        refine z0 (V1.indexAddrA ty_80 sz_79 rfl rfl zw zw) ?_
        refine zc (T1.store1 rfl rfl sz_79 rfl z_H (Nat.zero_le _) z_K ?_)
        refine TL.nil ?_
        refine T.seq (T.live (l := [(1, _), (2, _), (6, _), (7, _), (30, _)]) zT (fun e_ => ?_))
        refine zs ?_
        refine z0 (V1.fieldAddr fl_82_0 rfl) ?_
        refine z0 (V1.indexAddrA ty_80 sz_79 rfl rfl zw zw) ?_
        refine z0 (V1.load1 one_79 rfl (.own z_A zr)) ?_
        refine zq (V1.shrW (k := 51) u64U rfl rfl) ?_
        refine z0 (V1.fieldAddr fl_82_0 rfl) ?_
        refine z0 (V1.indexAddrA ty_80 sz_79 rfl rfl zw zw) ?_
        refine z0 (V1.load1 one_79 rfl (.own z_A zr)) ?_
        refine z0 (V1.andW (b := 2251799813685247#64) u64U rfl rfl) ?_
        refine z0 (V1.fieldAddr fl_82_0 rfl) ?_
        refine z0 (V1.indexAddrA ty_80 sz_79 rfl rfl zw zw) ?_
        refine zc (T1.store1 rfl rfl sz_79 rfl z_H (Nat.zero_le _) z_K ?_)
        refine zs ?_
        refine zq1 (V1.add (c := 1) rfl rfl ze) ?_
        refine TR.step ?_
        refine T.seq (T.live (l := [(1, _), (2, _), (3, _), (6, _), (30, _)]) zT (fun e_ => ?_))
        refine T.region (z0 (V1.ltI rfl rfl (decide_eq_true zw)) ?_)
        ·
         refine zs ?_
         refine T.cond_t rfl (zs ?_)
         refine z0 (V1.fieldAddr fl_82_0 rfl) ?_
         refine z0 (V1.indexAddrA ty_80 sz_79 rfl rfl zw zw) ?_
         refine zq (V1.load1 one_79 rfl (.own z_A zr)) ?_
         refine z0 (V1.addW u64U rfl rfl) ?_
         refine z0 (V1.fieldAddr fl_82_0 rfl) ?_
         refine z0 (V1.indexAddrA ty_80 sz_79 rfl rfl zw zw) ?_
         refine zc (T1.store1 rfl rfl sz_79 rfl z_H (Nat.zero_le _) z_K ?_)
         refine zs ?_
         refine z0 (V1.fieldAddr fl_82_0 rfl) ?_
         refine z0 (V1.indexAddrA ty_80 sz_79 rfl rfl zw zw) ?_
         refine z0 (V1.load1 one_79 rfl (.own z_A zr)) ?_
         refine zq1 (V1.shrW (k := 51) u64U rfl rfl) ?_
         refine T.live (l := [(1, _), (2, _), (3, _), (6, _), (7, _), (30, _)]) zT (fun e_ => ?_)
         refine zs ?_
         refine z0 (V1.fieldAddr fl_82_0 rfl) ?_
         refine z0 (V1.indexAddrA ty_80 sz_79 rfl rfl zw zw) ?_
         refine z0 (V1.load1 one_79 rfl (.own z_A zr)) ?_
         refine z0 (V1.andW (b := 2251799813685247#64) u64U rfl rfl) ?_
         refine z0 (V1.fieldAddr fl_82_0 rfl) ?_
         refine z0 (V1.indexAddrA ty_80 sz_79 rfl rfl zw zw) ?_
         refine zc (T1.store1 rfl rfl sz_79 rfl z_H (Nat.zero_le _) z_K ?_)
         refine zs ?_
         refine zq1 (V1.add (c := 2) rfl rfl ze) ?_
         refine TR.step ?_
         refine zs ?_
         refine z0 (V1.ltI rfl rfl (decide_eq_true zw)) ?_
         ·
          refine zs ?_
          refine T.cond_t rfl (zs ?_)
          refine z0 (V1.fieldAddr fl_82_0 rfl) ?_
          refine z0 (V1.indexAddrA ty_80 sz_79 rfl rfl zw zw) ?_
          refine zq (V1.load1 one_79 rfl (.own z_A zr)) ?_
          refine z0 (V1.addW u64U rfl rfl) ?_
          refine z0 (V1.fieldAddr fl_82_0 rfl) ?_
          refine z0 (V1.indexAddrA ty_80 sz_79 rfl rfl zw zw) ?_
          refine zc (T1.store1 rfl rfl sz_79 rfl z_H (Nat.zero_le _) z_K ?_)
          refine TL.nil ?_
          refine T.seq (T.live (l := [(1, _), (2, _), (6, _), (7, _), (30, _)]) zT (fun e_ => ?_))
          refine zs ?_
          refine z0 (V1.fieldAddr fl_82_0 rfl) ?_
          refine z0 (V1.indexAddrA ty_80 sz_79 rfl rfl zw zw) ?_
          refine z0 (V1.load1 one_79 rfl (.own z_A zr)) ?_
          refine zq (V1.shrW (k := 51) u64U rfl rfl) ?_
          refine z0 (V1.fieldAddr fl_82_0 rfl) ?_
          refine z0 (V1.indexAddrA ty_80 sz_79 rfl rfl zw zw) ?_
          refine z0 (V1.load1 one_79 rfl (.own z_A zr)) ?_
          refine z0 (V1.andW (b := 2251799813685247#64) u64U rfl rfl) ?_
          refine z0 (V1.fieldAddr fl_82_0 rfl) ?_
          refine z0 (V1.indexAddrA ty_80 sz_79 rfl rfl zw zw) ?_
          refine zc (T1.store1 rfl rfl sz_79 rfl z_H (Nat.zero_le _) z_K ?_)
          refine zs ?_
          refine zq1 (V1.add (c := 3) rfl rfl ze) ?_
          refine TR.step ?_
          refine T.seq (T.live (l := [(1, _), (2, _), (3, _), (6, _), (30, _)]) zT (fun e_ => ?_))
          refine T.region (z0 (V1.ltI rfl rfl (decide_eq_true zw)) ?_)
          ·
           refine zs ?_
           refine T.cond_t rfl (zs ?_)
           refine z0 (V1.fieldAddr fl_82_0 rfl) ?_
           refine z0 (V1.indexAddrA ty_80 sz_79 rfl rfl zw zw) ?_
           refine zq (V1.load1 one_79 rfl (.own z_A zr)) ?_
           refine z0 (V1.addW u64U rfl rfl) ?_
           refine z0 (V1.fieldAddr fl_82_0 rfl) ?_
           refine z0 (V1.indexAddrA ty_80 sz_79 rfl rfl zw zw) ?_
           refine zc (T1.store1 rfl rfl sz_79 rfl z_H (Nat.zero_le _) z_K ?_)
           refine zs ?_
           refine z0 (V1.fieldAddr fl_82_0 rfl) ?_
           refine z0 (V1.indexAddrA ty_80 sz_79 rfl rfl zw zw) ?_
           refine z0 (V1.load1 one_79 rfl (.own z_A zr)) ?_
           refine zq1 (V1.shrW (k := 51) u64U rfl rfl) ?_
           refine T.live (l := [(1, _), (2, _), (3, _), (6, _), (7, _), (30, _)]) zT (fun e_ => ?_)
           refine zs ?_
           refine z0 (V1.fieldAddr fl_82_0 rfl) ?_
           refine z0 (V1.indexAddrA ty_80 sz_79 rfl rfl zw zw) ?_
           refine z0 (V1.load1 one_79 rfl (.own z_A zr)) ?_
           refine z0 (V1.andW (b := 2251799813685247#64) u64U rfl rfl) ?_
           refine z0 (V1.fieldAddr fl_82_0 rfl) ?_
           refine z0 (V1.indexAddrA ty_80 sz_79 rfl rfl zw zw) ?_
           refine zc (T1.store1 rfl rfl sz_79 rfl z_H (Nat.zero_le _) z_K ?_)
           refine zs ?_
           refine zq1 (V1.add (c := 4) rfl rfl ze) ?_
           refine TR.step ?_
           refine zs ?_
           refine z0 (V1.ltI rfl rfl (decide_eq_true zw)) ?_
           ·
            refine zs ?_
            refine T.cond_t rfl (zs ?_)
            refine z0 (V1.fieldAddr fl_82_0 rfl) ?_
            refine z0 (V1.indexAddrA ty_80 sz_79 rfl rfl zw zw) ?_
            refine zq (V1.load1 one_79 rfl (.own z_A zr)) ?_
            refine z0 (V1.addW u64U rfl rfl) ?_
            refine z0 (V1.fieldAddr fl_82_0 rfl) ?_
            refine z0 (V1.indexAddrA ty_80 sz_79 rfl rfl zw zw) ?_
            refine zc (T1.store1 rfl rfl sz_79 rfl z_H (Nat.zero_le _) z_K ?_)
            refine TL.nil ?_
            refine T.seq (T.live (l := [(1, _), (2, _), (6, _), (7, _), (30, _)]) zT (fun e_ => ?_))
            refine zs ?_
            refine z0 (V1.fieldAddr fl_82_0 rfl) ?_
            refine z0 (V1.indexAddrA ty_80 sz_79 rfl rfl zw zw) ?_
            refine z0 (V1.load1 one_79 rfl (.own z_A zr)) ?_
            refine zq (V1.shrW (k := 51) u64U rfl rfl) ?_
            refine z0 (V1.fieldAddr fl_82_0 rfl) ?_
            refine z0 (V1.indexAddrA ty_80 sz_79 rfl rfl zw zw) ?_
            refine z0 (V1.load1 one_79 rfl (.own z_A zr)) ?_
            refine z0 (V1.andW (b := 2251799813685247#64) u64U rfl rfl) ?_
            refine z0 (V1.fieldAddr fl_82_0 rfl) ?_
            refine z0 (V1.indexAddrA ty_80 sz_79 rfl rfl zw zw) ?_
            refine zc (T1.store1 rfl rfl sz_79 rfl z_H (Nat.zero_le _) z_K ?_)
            refine zs ?_
            refine zq1 (V1.add (c := 5) rfl rfl ze) ?_
            refine TR.step ?_
            refine T.seq (T.live (l := [(1, _), (2, _), (3, _), (6, _), (30, _)]) zT (fun e_ => ?_))
            refine T.region (z0 (V1.ltI rfl rfl (decide_eq_false zw)) ?_)
            ·
             refine zs ?_
             refine T.cond_f rfl (T.exit (T.seq (T.seq (T.region (z1 ?_)))))
             refine T.block (T.loopL (σ := Nat) (l0 := [(1, _), (2, _), (6, _)]) (fun x => [(54, .int .i64 (x : Nat))]) (fun q L => L = ⟨b6, 0, (leF (x.fe.val % 2 ^ q)).map byteV, 32⟩ :: ⟨b2, 0, List.replicate 32 (.int .u8 0), 32⟩ :: ⟨b1, 0, (limbsF x.fe.val).map w64, 5⟩ :: [] ∧ q ≤ 255) (fun q => 255 - q) 0 (.cons rfl .nil) zT z_B (⟨(show (⟨b6, 0, List.replicate 32 (.int .u8 0), 32⟩ :: ⟨b2, 0, List.replicate 32 (.int .u8 0), 32⟩ :: ⟨b1, 0, feC y.fin, 5⟩ :: [] : List Blk) = ⟨b6, 0, (leF (x.fe.val % 2 ^ 0)).map byteV, 32⟩ :: ⟨b2, 0, List.replicate 32 (.int .u8 0), 32⟩ :: ⟨b1, 0, (limbsF x.fe.val).map w64, 5⟩ :: [] from by rw [leF_none, fin_cells hx hz hy]), Nat.zero_le _⟩) ?_)
             rintro i e_ L ⟨rfl, hi⟩
             refine zs ?_
             refine zc (T1.ltI_split rfl rfl (fun h3 => ?_) (fun h3 => ?_))
             ·
              have hi3 : i < 255 := by omega
              refine zs ?_
              refine T.cond_t rfl (T.skip (T.seq (T.block (T.seq (T.region (z1 ?_))))))
              refine T.drawTail 19 mixed z_F zr z_F rfl ?_
              refine zd 0 (zO 8 zZ) (V1.move' z_C) ?_
              refine zd 1 (zN 57 0 rfl zZ) (V1.quo (c := ((i / 8 : Nat) : Int)) rfl rfl ze (by rw [show ((i : Int).tdiv 8) = ((i / 8 : Nat) : Int) from (Int.ofNat_tdiv i 8).symm]; exact wrap_i64 _ zw zw)) ?_
              refine zd 2 (zO 6 (zN 58 1 rfl zZ)) (V1.indexAddrA ty_36 sz_5 rfl rfl zw zw) ?_
              refine Det.cons 3 (zN 59 2 rfl zZ) (fun e_ => .inl ⟨rfl, V1.t (V1.load1 one_5 rfl (show Rd _ _ ⟨b6, 0 + (i / 8) * 1, none⟩ (byteV ((leF (x.fe.val % 2 ^ i)).getD (i / 8) 0)) from by rw [Nat.mul_one]; exact Rd.at z_A (bytes_get (by rw [leF_len]; omega)))) ⟨rfl, rfl⟩⟩) ?_
              refine zd 4 (zO 8 zZ) (V1.move' z_C) ?_
              refine zd 5 (zN 61 4 rfl zZ) (V1.quo (c := ((i / 51 : Nat) : Int)) rfl rfl ze (by rw [show ((i : Int).tdiv 51) = ((i / 51 : Nat) : Int) from (Int.ofNat_tdiv i 51).symm]; exact wrap_i64 _ zw zw)) ?_
              refine zd 6 (zO 1 zZ) (V1.fieldAddr fl_82_0 rfl) ?_
              refine zd 7 (zN 62 5 rfl (zN 63 6 rfl zZ)) (V1.indexAddrA ty_80 sz_79 rfl rfl zw zw) ?_
              refine Det.cons 8 (zN 64 7 rfl zZ) (fun e_ => .inl ⟨rfl, V1.t (V1.load1 one_79 rfl (show Rd _ _ ⟨b1, 0 + 0 + (i / 51) * 1, none⟩ (w64 ((limbsF x.fe.val).getD (i / 51) 0)) from by rw [show 0 + 0 + (i / 51) * 1 = 0 + i / 51 from by omega]; exact Rd.at z_A (limbsF_get zw))) ⟨rfl, rfl⟩⟩) ?_
              refine zd 9 (zO 8 zZ) (V1.move' z_C) ?_
              refine zd 10 (zN 66 9 rfl zZ) (V1.rem (c := ((i % 51 : Nat) : Int)) rfl rfl ze (by rw [show ((i : Int).tmod 51) = ((i % 51 : Nat) : Int) from (Int.ofNat_tmod i 51).symm])) ?_
              refine zd 11 (zN 65 8 rfl (zN 67 10 rfl zZ)) (V1.shrW (a := (limbsF x.fe.val).getD (i / 51) 0) (k := i % 51) u64U rfl rfl) ?_
              refine zd 12 (zN 68 11 rfl zZ) (V1.andW (a := ((limbsF x.fe.val).getD (i / 51) 0) >>> (i % 51)) (b := 1#64) u64U rfl rfl) ?_
              refine zd 13 (zN 69 12 rfl zZ) (V1.convW 8 u8U ty_79 ty_5 rfl) ?_
              refine zd 14 (zO 8 zZ) (V1.move' z_C) ?_
              refine zd 15 (zN 71 14 rfl zZ) (V1.rem (c := ((i % 8 : Nat) : Int)) rfl rfl ze (by rw [show ((i : Int).tmod 8) = ((i % 8 : Nat) : Int) from (Int.ofNat_tmod i 8).symm])) ?_
              refine zd 16 (zN 70 13 rfl (zN 72 15 rfl zZ)) (V1.shlW (a := ((((limbsF x.fe.val).getD (i / 51) 0) >>> (i % 51)) &&& 1#64).setWidth 8) (k := i % 8) u8U rfl rfl) ?_
              refine zd 17 (zN 60 3 rfl (zN 73 16 rfl zZ)) (V1.orW (a := ((leF (x.fe.val % 2 ^ i)).getD (i / 8) 0).toBitVec) (b := ((((limbsF x.fe.val).getD (i / 51) 0) >>> (i % 51)) &&& 1#64).setWidth 8 <<< (i % 8)) u8U rfl rfl) ?_
              refine zd 18 (zO 6 (zN 58 1 rfl zZ)) (V1.indexAddrA ty_36 sz_5 rfl rfl zw zw) ?_
              refine Det.nil 19 (zQ 1 (zQ 2 (zQ 6 (zQ 54 (zR 74 17 rfl (zR 75 18 rfl zW)))))) (fun e_ => ?_)
              refine (show TU _ _ _ 1 _ _ _ from ?_)
              refine TU.one 19 z_F rfl rfl (T1.storeE (o := 0 + (i / 8) * 1) (cells := (leF (x.fe.val % 2 ^ i)).map byteV) (cells' := (leF (x.fe.val % 2 ^ (i + 1))).map byteV) rfl rfl sz_5 rfl (by rw [show 0 + (i / 8) * 1 - 0 = i / 8 from by omega, ← to_step hi3, List.map_set]; rfl) z_H (Nat.zero_le _) (by rw [List.length_map, leF_len]; omega) ?_)
              refine TU.done z_F ?_
              refine T.region (zq1 (V1.add rfl rfl (wrap_i64 _ zw zw)) ?_)
              exact ⟨i + 1, ⟨b6, 0, (leF (x.fe.val % 2 ^ (i + 1))).map byteV, 32⟩ :: ⟨b2, 0, List.replicate 32 (.int .u8 0), 32⟩ :: ⟨b1, 0, (limbsF x.fe.val).map w64, 5⟩ :: [], _, z_N, (.cons rfl .nil), (.cons rfl (.cons rfl (.cons rfl .nil))), z_B, ⟨rfl, by omega⟩⟩
             ·
              obtain rfl : i = 255 := by omega
              rw [Nat.mod_eq_of_lt (val_lt x.fe)]
              refine zs ?_
              refine T.cond_f rfl (zs ?_)
              refine z0 (V1.loadN (vs := (leF x.fe.val).map byteV) one_36 sz_36 rfl (RdN.whole z_A) z_M) ?_
              refine zc (T1.storeN rfl rfl sz_36 (one_bytes _) z_H z_Q z_M ?_)
              refine zs ?_
              exact ⟨_, [], _, .cons (.cellN z_C one_36 sz_36 (RdN.whole z_A) z_M) .nil, Take.nil, rfl, rfl⟩
end Go.Proofs.YtfjedhmffccgnaaGreatDoor.S
namespace Go.Proofs.YtfjedhmffccgnaaGreatDoor.S
set_option maxRecDepth 100000
open Go.RowKit
open Ed
theorem leN_leF {n : Nat} (h : n < 2 ^ 256) : leN (leF n) = n := by
 rw [leF_eq, leN_le, Nat.mod_eq_of_lt]; exact h
theorem leF_inj {n m : Nat} (hn : n < 2 ^ 256) (hm : m < 2 ^ 256) : leF n = leF m ↔ n = m := ⟨fun h => by rw [← leN_leF hn, h, leN_leF hm], fun h => by rw [h]⟩
theorem val_lt2 (a : Fp) : a.val < 2 ^ 256 := Nat.lt_trans (val_lt a) ze
theorem leF_fe (a b : Fp) : decide (leF a.val = leF b.val) = decide (a = b) := by
 rw [decide_eq_decide, leF_inj (val_lt2 a) (val_lt2 b)]; exact ⟨Fp.ext, fun h => by rw [h]⟩
theorem leF_nil : leF 0 = List.replicate 32 0 := by rw [leF_eq]; rfl
theorem is_zero (a : Fp) : decide (leF a.val = List.replicate 32 0) = decide (a = 0) := by
 rw [← leF_nil]; exact leF_fe a 0
theorem odd_byte (a : Fp) : decide (((((leF a.val).getD 0 0).toBitVec &&& 1#8).toNat : Int) = 1) = a.odd := by
 have h : ((((leF a.val).getD 0 0).toBitVec) >>> 0 &&& 1#8) = BitVec.ofNat 8 ((((leF a.val).getD (0 / 8) 0).toBitVec >>> (0 % 8)).toNat % 2) := bit8 _ 0
 rw [byte_bit (by rw [leF_len]; decide), leN_leF (val_lt2 a), Nat.pow_zero, Nat.div_one, BitVec.ushiftRight_zero] at h
 rw [h, BitVec.toNat_ofNat]
 unfold Fp.odd
 rcases Nat.mod_two_eq_zero_or_one a.val with e | e <;> rw [e] <;> rfl
theorem canon {k : List UInt8} (hk : k.length = 32) (hl : leN k < 2 ^ 255) : decide (leF (fp (leN k % 2 ^ 255)).val = k) = decide (leN k < Ed.P) := by
 rw [Nat.mod_eq_of_lt hl, decide_eq_decide, val_fp]
 constructor
 ·
  intro h
  have := congrArg leN h
  rw [leN_leF (Nat.lt_trans (Nat.mod_lt _ Ed.P_pos) (Nat.lt_trans P_lt ze))] at this
  rw [← this]; exact Nat.mod_lt _ Ed.P_pos
 ·
  intro h
  rw [Nat.mod_eq_of_lt h, leF_eq, ← hk]; exact le_leN k
theorem Invert_any (x : L5) (w : World) (hx : x.norm) : Fn P 56 [feV x] w [] (fun v Y => Y = [] ∧ FeR (x.fe⁻¹) v) := by
 refine Fn.of 6 [.cell 2 82] Go.Proofs.Tryz.func56 rfl rfl rfl rfl ?_
 refine zs ?_
 refine zc (T1.boxN 5 rfl rfl (fun b1 => ?_))
 refine zc (T1.allocN 5 zr_82 rfl (fun b2 => ?_))
 refine TL.nil ?_
 refine T.seq (T.drawTail 2 mixed z_F zr z_F rfl ?_)
 refine Det.cons 0 (zO 1 zZ) (fun e_ => .inl ⟨rfl, V1.t (V1.loadN one_82 sz_82 rfl (RdN.whole z_A) zr) ⟨rfl, rfl⟩⟩) ?_
 refine Det.cons 1 (ins := []) (v := .agg ((leF (2 ^ 255 - 1 - (20 : UInt8).toNat)).map byteV).toArray) .nil (fun e_ => .inl ⟨rfl, ?_⟩) ?_
 ·
  refine T1.call0 has_102 rfl (fun w hs => ones_any 255 20 w ze ze) (fun v hv => ?_)
  subst hv
  exact ⟨rfl, rfl⟩
 refine Det.nil 2 (zQ 2 (zR 3 0 rfl (zR 4 1 rfl zW))) (fun e_ => ?_)
 refine (show TU _ _ _ 2 _ _ _ from ?_)
 refine TU.one 2 z_F rfl rfl (T1.call0 has_101 rfl (fun w hs => Power_any x (leF (2 ^ 255 - 1 - (20 : UInt8).toNat)) w hx (leF_len _)) (fun v hv => ?_))
 obtain ⟨p, rfl, hpn, hpf⟩ := hv
 refine TU.one 3 z_F rfl rfl (T1.storeN rfl rfl sz_82 (ones rfl) z_H zr zr ?_)
 refine TU.done z_F ?_
 refine T.ret ?_
 exact ⟨_, [], _, .cons (.cellN z_C one_82 sz_82 (RdN.whole z_A) (by kernel_rfl)) .nil, Take.nil, rfl, p, rfl, hpn, by rw [hpf, leN_leF z_F]; exact congrArg (x.fe ^ ·) z_F⟩
theorem IsZero_any (x : L5) (w : World) (hx : x.norm) : Fn P 105 [feV x] w [] (fun v Y => Y = [] ∧ v = .bool (decide (x.fe = 0))) := by
 refine Fn.of 7 [.tmp 2] Go.Proofs.Tryz.func105 rfl rfl rfl rfl ?_
 refine zs ?_
 refine zc (T1.boxN 5 rfl rfl (fun b1 => zs ?_))
 refine z0 (V1.loadN one_82 sz_82 rfl (RdN.whole z_A) zr) ?_
 refine zc (T1.call0 has_57 rfl (fun w hs => Bytes_any x w hx) (fun v hv => ?_))
 subst hv
 refine z0 (V1.buildA0 ty_36 sz_5 zr_36) ?_
 refine zq (V1.eqBs (l := leF x.fe.val) (m := List.replicate 32 0) (r := decide (x.fe = 0)) ty_36 ty_5 sz_5 eg_36 rfl rfl (leF_len _) (by simp) (is_zero _)) ?_
 exact ⟨_, [], _, .cons (.tmp z_C) .nil, Take.nil, rfl, rfl⟩
theorem Odd_any (x : L5) (w : World) (hx : x.norm) : Fn P 58 [feV x] w [] (fun v Y => Y = [] ∧ v = .bool x.fe.odd) := by
 refine Fn.of 8 [.tmp 2] Go.Proofs.Tryz.func58 rfl rfl rfl rfl ?_
 refine zs ?_
 refine zc (T1.boxN 5 rfl rfl (fun b1 => zs ?_))
 refine z0 (V1.loadN one_82 sz_82 rfl (RdN.whole z_A) zr) ?_
 refine zc (T1.call0 has_57 rfl (fun w hs => Bytes_any x w hx) (fun v hv => ?_))
 subst hv
 refine zc (V1.t (V1.indexA ty_36 sz_5 rfl rfl ze ze (fun w => run_part1 one_5 (show ((leF x.fe.val).map byteV).toArray[0 * 1]? = some (byteV ((leF x.fe.val).getD 0 0)) from by rw [Nat.mul_one, List.getElem?_toArray]; exact bytes_get (by rw [leF_len]; decide)) w)) ?_)
 refine z0 (V1.andW (a := ((leF x.fe.val).getD 0 0).toBitVec) (b := 1#8) u8U rfl rfl) ?_
 refine zq (V1.eqI (r := x.fe.odd) rfl rfl (odd_byte _)) ?_
 exact ⟨_, [], _, .cons (.tmp z_C) .nil, Take.nil, rfl, rfl⟩
theorem FEqual_any (x y : L5) (w : World) (hx : x.norm) (hy : y.norm) : Fn P 126 [feV x, feV y] w [] (fun v Y => Y = [] ∧ v = .bool (decide (x.fe = y.fe))) := by
 refine Fn.of 10 [.tmp 4] Go.Proofs.Tryz.func126 rfl rfl rfl rfl ?_
 refine zs ?_
 refine zc (T1.boxN 5 rfl rfl (fun b2 => ?_))
 refine zc (T1.boxN 5 rfl rfl (fun b3 => z1 ?_))
 refine T.seq (T.drawDet' mixed z_F ?_)
 refine Det.cons 0 (zO 2 zZ) (fun e_ => .inl ⟨rfl, V1.t (V1.loadN one_82 sz_82 rfl (RdN.whole z_A) zr) ⟨rfl, rfl⟩⟩) ?_
 refine Det.cons 1 (v := .agg ((leF x.fe.val).map byteV).toArray) (zN 5 0 rfl zZ) (fun e_ => .inl ⟨rfl, ?_⟩) ?_
 ·
  refine T1.call0 has_57 rfl (fun w hs => Bytes_any x w hx) (fun v hv => ?_)
  subst hv
  exact ⟨rfl, rfl⟩
 refine Det.cons 2 (zO 3 zZ) (fun e_ => .inl ⟨rfl, V1.t (V1.loadN one_82 sz_82 rfl (RdN.whole z_A) zr) ⟨rfl, rfl⟩⟩) ?_
 refine Det.cons 3 (v := .agg ((leF y.fe.val).map byteV).toArray) (zN 7 2 rfl zZ) (fun e_ => .inl ⟨rfl, ?_⟩) ?_
 ·
  refine T1.call0 has_57 rfl (fun w hs => Bytes_any y w hy) (fun v hv => ?_)
  subst hv
  exact ⟨rfl, rfl⟩
 refine zd 4 (zN 6 1 rfl (zN 8 3 rfl zZ)) (V1.eqBs (l := leF x.fe.val) (m := leF y.fe.val) (r := decide (x.fe = y.fe)) ty_36 ty_5 sz_5 eg_36 rfl rfl (leF_len _) (leF_len _) (leF_fe _ _)) ?_
 refine zd 5 (zN 9 4 rfl zZ) (V1.assign' z_C) ?_
 refine Det.nil 6 (zR 4 5 rfl zW) (fun e_ => ?_)
 refine T.ret ?_
 exact ⟨_, [], _, .cons (.tmp z_C) .nil, Take.nil, rfl, rfl⟩
theorem FCanonical_any (k : List UInt8) (w : World) (hk : k.length = 32) (hl : leN k < 2 ^ 255) : Fn P 103 [.agg (k.map byteV).toArray] w [] (fun v Y => Y = [] ∧ v = .bool (decide (leN k < Ed.P))) := by
 refine Fn.of 8 [.tmp 2] Go.Proofs.Tryz.func103 rfl rfl rfl rfl ?_
 refine zs ?_
 refine zc (T1.boxN (vs := (k).map byteV) 32 rfl (by rw [List.length_map, hk]) (fun b1 => z1 ?_))
 refine T.seq (T.drawDet' mixed z_F ?_)
 refine Det.cons 0 (zO 1 zZ) (fun e_ => .inl ⟨rfl, V1.t (V1.loadN (vs := k.map byteV) one_36 sz_36 rfl (RdN.whole z_A) (by rw [List.length_map, hk])) ⟨rfl, rfl⟩⟩) ?_
 refine Det.cons 1 (v := feV (LbF (leN k % 2 ^ 255))) (zN 3 0 rfl zZ) (fun e_ => .inl ⟨rfl, ?_⟩) ?_
 ·
  refine T1.call0 has_47 rfl (fun w hs => FOf_any k w hk) (fun v hv => ?_)
  subst hv
  exact ⟨rfl, rfl⟩
 refine Det.cons 2 (v := .agg ((leF (LbF (leN k % 2 ^ 255)).fe.val).map byteV).toArray) (zN 4 1 rfl zZ) (fun e_ => .inl ⟨rfl, ?_⟩) ?_
 ·
  refine T1.call0 has_57 rfl (fun w hs => Bytes_any (LbF (leN k % 2 ^ 255)) w (LbF_norm _)) (fun v hv => ?_)
  subst hv
  exact ⟨rfl, rfl⟩
 refine Det.cons 3 (zO 1 zZ) (fun e_ => .inl ⟨rfl, V1.t (V1.loadN (vs := k.map byteV) one_36 sz_36 rfl (RdN.whole z_A) (by rw [List.length_map, hk])) ⟨rfl, rfl⟩⟩) ?_
 refine zd 4 (zN 5 2 rfl (zN 6 3 rfl zZ)) (V1.eqBs (l := leF (LbF (leN k % 2 ^ 255)).fe.val) (m := k) (r := decide (leN k < Ed.P)) ty_36 ty_5 sz_5 eg_36 rfl rfl (leF_len _) hk (by rw [LbF_fe (Nat.mod_lt _ ze)]; exact canon hk hl)) ?_
 refine zd 5 (zN 7 4 rfl zZ) (V1.assign' z_C) ?_
 refine Det.nil 6 (zR 2 5 rfl zW) (fun e_ => ?_)
 refine T.ret ?_
 exact ⟨_, [], _, .cons (.tmp z_C) .nil, Take.nil, rfl, rfl⟩
end Go.Proofs.YtfjedhmffccgnaaGreatDoor.S
