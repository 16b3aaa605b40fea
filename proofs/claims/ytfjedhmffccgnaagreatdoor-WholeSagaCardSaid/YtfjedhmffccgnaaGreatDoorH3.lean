/- Two points put together by Add; so many times a point; a point as 32 bytes. -/
import Derived.Test.YtfjedhmffccgnaaGreatDoorH2
namespace Go.Proofs.YtfjedhmffccgnaaGreatDoor.S
set_option maxRecDepth 100000
set_option maxHeartbeats 1000000
open Go.RowKit
open Ed
theorem pt_flat : ∀ (l : List P4) (i : Nat) (x : P4) (j : Nat) (v : Value), l[i]? = some x → (ptC x)[j]? = some v → (l.flatMap ptC)[i * 20 + j]? = some v
 | [], i, x, j, v, h, _ => by simp at h
 | y :: l, 0, x, j, v, h, hv => by
  simp only [List.getElem?_cons_zero, Option.some.injEq] at h
  subst h
  rw [List.flatMap_cons, Nat.zero_mul, Nat.zero_add, List.getElem?_append_left (List.getElem?_eq_some_iff.1 hv).1]; exact hv
 | y :: l, i + 1, x, j, v, h, hv => by
  rw [List.flatMap_cons, List.getElem?_append_right (by show 20 ≤ _; omega), show (i + 1) * 20 + j - (ptC y).length = i * 20 + j from by show (i + 1) * 20 + j - 20 = _; omega]
  exact pt_flat l i x j v (by simpa using h) hv
theorem pt_at {w0 : World} {Ps : List Blk} {a : Option Addr} {n c : Nat} {l : List P4} (h : RowR w0 Ps 20 (.slice a n c) n (l.flatMap ptC)) (hn : 0 < n) (P : Program) :
 ∃ b o, a = some ⟨b, o, none⟩ ∧ ∀ i x, l[i]? = some x → ∀ C : Ctx, C.w0 = w0 → C.M = [] → ∀ L, Inc Ps L → RdN C L ⟨b, o + i * 20, none⟩ (ptC x) := by
 obtain ⟨b, o, e, hr⟩ := h.at hn P
 refine ⟨b, o, e, fun i x hx C h0 hm L hL j v hv => ?_⟩
 have := hr C h0 hm L hL (i * 20 + j) v (pt_flat l i x j v hx hv)
 rw [← Nat.add_assoc] at this
 exact this
theorem leF_high {n : Nat} (h : n < 2 ^ 255) : (leF n).set 31 (UInt8.ofBitVec (((leF n).getD 31 0).toBitVec ||| 128#8)) = leF (n + 2 ^ 255) := by
 rw [leF_eq, leF_eq]; exact le_high h
theorem Bytes_to {x : L5} {e : Fp} (hx : x.norm) (he : x.fe = e) (w : World) : Fn P 57 [feV x] w [] (fun v Y => Y = [] ∧ v = .agg ((leF e.val).map byteV).toArray) := by subst he; exact Bytes_any x w hx
theorem Odd_to {x : L5} {e : Fp} (hx : x.norm) (he : x.fe = e) (w : World) : Fn P 58 [feV x] w [] (fun v Y => Y = [] ∧ v = .bool e.odd) := by subst he; exact Odd_any x w hx
theorem encF_f {Q : Pt crv} (h : Q.x.odd = false) : leF Q.y.val = encP Q := by unfold encP; rw [leF_eq, h]; rfl
theorem encF_t {Q : Pt crv} (h : Q.x.odd = true) : leF (Q.y.val + 2 ^ 255) = encP Q := by unfold encP; rw [leF_eq, h]; rfl
theorem PAdd2_any (w0 : World) (Ps : List Blk) {v : Value} {A B : Pt crv} {p q : P4} (h : RowR w0 Ps 20 v 2 ([p, q].flatMap ptC)) (hp : PtR A p) (hq : PtR B q) : FnV P 63 [v] w0 Ps (fun v => PtV (((Pt.zero crv).add A).add B) v) := by
 obtain ⟨a, c, rfl⟩ := h.form
 obtain ⟨bl, ol, rfl, hrd⟩ := pt_at h ze P
 refine FnV.of 21 [.cell 2 84] Go.Proofs.Tryz.func63 rfl rfl rfl rfl (fun G hG => ?_)
 refine zs ?_
 refine zc (T1.allocN 20 zr_84 rfl (fun b2 => zs ?_))
 refine zc (T1.call0 has_50 rfl (fun w hs => PZero_any w) (fun v hv => ?_))
 subst hv
 refine zc (T1.call0 has_51 rfl (fun w hs => factor_any w) (fun v hv => ?_))
 subst hv
 refine zc (T1.allocN 20 zr_84 rfl (fun b3 => ?_))
 refine zc (T1.allocN 5 zr_82 rfl (fun b4 => ?_))
 refine zc (T1.storeN rfl rfl sz_84 (ones rfl) z_H zr zr ?_)
 refine zc (T1.storeN rfl rfl sz_82 (ones rfl) z_H zr zr ?_)
 refine zs ?_
 refine zq1 (V1.lenSl ty_168 rfl) ?_
 refine T.block (T.rounds 3 (TR.step ?_))
 refine zs ?_
 refine z0 (V1.ltI rfl rfl (decide_eq_true zw)) ?_
 ·
  refine zs ?_
  refine T.cond_t rfl (zs ?_)
  refine z0 (V1.indexAddrS ty_168 sz_84 rfl rfl ze ze) ?_
  refine z0 (V1.loadN (vs := ptC p) one_84 sz_84 rfl (hrd 0 _ rfl _ rfl rfl _ z_D) rfl) ?_
  refine zc (T1.allocN 20 zr_84 rfl (fun b6 => ?_))
  refine zc (T1.storeN rfl rfl sz_84 (ones rfl) z_H zr zr ?_)
  refine TL.nil ?_
  refine T.live (l := [(2, _), (3, _), (4, _), (6, _), (9, _), (10, _), (11, _)]) zT (fun e_ => ?_)
  refine T.region (z0 (V1.loadN one_84 sz_84 rfl (RdN.whole z_A) zr) ?_)
  refine z0 (V1.loadN one_84 sz_84 rfl (RdN.whole z_A) zr) ?_
  refine z0 (V1.loadN one_82 sz_82 rfl (RdN.whole z_A) zr) ?_
  refine zc (T1.call0 has_53 rfl (fun w hs => Pplus_any zero_pt hp dF_spec w) (fun v hv => ?_))
  obtain ⟨y1, rfl, hy1⟩ := hv
  refine zc (T1.storeN rfl rfl sz_84 (ones rfl) z_H zr zr ?_)
  refine zs ?_
  refine zq1 (V1.add (c := 1) rfl rfl ze) ?_
  refine TR.step ?_
  refine zs ?_
  refine z0 (V1.ltI rfl rfl (decide_eq_true zw)) ?_
  ·
   refine zs ?_
   refine T.cond_t rfl (zs ?_)
   refine z0 (V1.indexAddrS ty_168 sz_84 rfl rfl ze ze) ?_
   refine z0 (V1.loadN (vs := ptC q) one_84 sz_84 rfl (hrd 1 _ rfl _ rfl rfl _ z_D) rfl) ?_
   refine zc (T1.allocN 20 zr_84 rfl (fun b6 => ?_))
   refine zc (T1.storeN rfl rfl sz_84 (ones rfl) z_H zr zr ?_)
   refine zs ?_
   refine z0 (V1.loadN one_84 sz_84 rfl (RdN.whole z_A) zr) ?_
   refine z0 (V1.loadN one_84 sz_84 rfl (RdN.whole z_A) zr) ?_
   refine z0 (V1.loadN one_82 sz_82 rfl (RdN.whole z_A) zr) ?_
   refine zc (T1.call0 has_53 rfl (fun w hs => Pplus_any hy1 hq dF_spec w) (fun v hv => ?_))
   obtain ⟨y2, rfl, hy2⟩ := hv
   refine zc (T1.storeN rfl rfl sz_84 (ones rfl) z_H zr zr ?_)
   refine TL.nil ?_
   refine T.live (l := [(2, _), (3, _), (4, _), (9, _), (10, _), (11, _)]) zT (fun e_ => ?_)
   refine T.region (zq1 (V1.add (c := 2) rfl rfl ze) ?_)
   refine TR.step ?_
   refine zs ?_
   refine z0 (V1.ltI rfl rfl (decide_eq_false zw)) ?_
   ·
    refine zs ?_
    refine T.cond_f rfl (zs ?_)
    refine z0 (V1.loadN one_84 sz_84 rfl (RdN.whole z_A) zr) ?_
    refine zc (T1.storeN rfl rfl sz_84 (ones rfl) z_H zr zr ?_)
    refine zs ?_
    exact ⟨_, G, _, .cons (.cellN (vs := ptC y2) z_C one_84 sz_84 (RdN.whole z_A) (by kernel_rfl)) .nil, z_B, rfl, y2, rfl, hy2⟩
theorem Multiply_any {A : Pt crv} {p : P4} (hp : PtR A p) (k : List UInt8) (hk : k.length = 32) (w : World) : Fn P 24 [ptV p, .agg (k.map byteV).toArray] w [] (fun v Y => Y = [] ∧ PtV (Pt.smul (leN k) A) v) := by
 refine Fn.of 30 [.cell 4 84] Go.Proofs.Tryz.func24 rfl rfl rfl rfl ?_
 refine zs ?_
 refine zc (T1.boxN (vs := ptC p) 20 rfl rfl (fun b2 => ?_))
 refine zc (T1.boxN (vs := (k).map byteV) 32 rfl (by rw [List.length_map, hk]) (fun b3 => ?_))
 refine zc (T1.allocN 20 zr_84 rfl (fun b4 => zs ?_))
 refine zc (T1.call0 has_50 rfl (fun w hs => PZero_any w) (fun v hv => ?_))
 subst hv
 refine zc (T1.call0 has_51 rfl (fun w hs => factor_any w) (fun v hv => ?_))
 subst hv
 refine zc (T1.allocN 20 zr_84 rfl (fun b5 => ?_))
 refine zc (T1.allocN 5 zr_82 rfl (fun b6 => ?_))
 refine zc (T1.storeN rfl rfl sz_84 (ones rfl) z_H zr zr ?_)
 refine zc (T1.storeN rfl rfl sz_82 (ones rfl) z_H zr zr ?_)
 refine TL.nil ?_
 refine T.seq (T.seq (T.region (z1 ?_)))
 refine T.block (T.loopL (σ := Nat × P4) (l0 := [(2, _), (3, _), (4, _), (5, _), (6, _)]) (fun x => [(7, .int .i64 ((x.1 : Nat) - 1 : Int))]) (fun q L => L = ⟨b6, 0, feC dF, 5⟩ :: ⟨b5, 0, ptC q.2, 20⟩ :: ⟨b4, 0, [.int .u64 0, .int .u64 0, .int .u64 0, .int .u64 0, .int .u64 0, .int .u64 0, .int .u64 0, .int .u64 0, .int .u64 0, .int .u64 0, .int .u64 0, .int .u64 0, .int .u64 0, .int .u64 0, .int .u64 0, .int .u64 0, .int .u64 0, .int .u64 0, .int .u64 0, .int .u64 0], 20⟩ :: ⟨b3, 0, k.map byteV, 32⟩ :: ⟨b2, 0, ptC p, 20⟩ :: [] ∧ PtR (Pt.smul (leN k / 2 ^ q.1) A) q.2 ∧ q.1 ≤ 256) (fun q => q.1) (256, ⟨zeroF, oneF, oneF, zeroF⟩) (.cons (show Value.int .i64 255 = Value.int .i64 (((256 : Nat) : Int) - 1) from rfl) .nil) zT z_B (⟨(rfl : (⟨b6, 0, feC dF, 5⟩ :: ⟨b5, 0, ptC ⟨zeroF, oneF, oneF, zeroF⟩, 20⟩ :: ⟨b4, 0, [.int .u64 0, .int .u64 0, .int .u64 0, .int .u64 0, .int .u64 0, .int .u64 0, .int .u64 0, .int .u64 0, .int .u64 0, .int .u64 0, .int .u64 0, .int .u64 0, .int .u64 0, .int .u64 0, .int .u64 0, .int .u64 0, .int .u64 0, .int .u64 0, .int .u64 0, .int .u64 0], 20⟩ :: ⟨b3, 0, k.map byteV, 32⟩ :: ⟨b2, 0, ptC p, 20⟩ :: [] : List Blk) = _), by rw [high_none hk]; exact zero_pt, Nat.le_refl _⟩) ?_)
 rintro ⟨r, y⟩ e_ L ⟨rfl, hy, hr⟩
 simp only at hy hr
 refine zs ?_
 refine zc (T1.geI_split rfl rfl (fun h3 => ?_) (fun h3 => ?_))
 ·
  simp only at h3
  obtain ⟨i, rfl⟩ : ∃ i, r = i + 1 := ⟨r - 1, by omega⟩
  have hbt : (((((k.getD (i / 8) 0).toBitVec >>> (i % 8)) &&& 1#8).toNat : Nat)) = leN k / 2 ^ i % 2 := by rw [bit8, byte_bit zw, BitVec.toNat_ofNat]; omega
  refine TL.nil ?_
  refine T.cond_t rfl (zs ?_)
  refine z0 (V1.loadN one_84 sz_84 rfl (RdN.whole z_A) zr) ?_
  refine zc (T1.call0 has_52 rfl (fun w hs => Ptwice_any hy w) (fun v hv => ?_))
  obtain ⟨y2, rfl, hy2⟩ := hv
  refine zc (T1.storeN rfl rfl sz_84 (ones rfl) z_H zr zr ?_)
  refine zs ?_
  refine z0 (V1.quo (c := ((i / 8 : Nat) : Int)) rfl rfl ze (by rw [(show (((i + 1 : Nat) : Int) - 1) = (i : Int) from by omega), show ((i : Int).tdiv 8) = ((i / 8 : Nat) : Int) from (Int.ofNat_tdiv i 8).symm]; exact wrap_i64 _ zw zw)) ?_
  refine z0 (V1.indexAddrA ty_36 sz_5 rfl rfl zw zw) ?_
  refine zq (V1.load1 one_5 rfl (show Rd _ _ ⟨b3, 0 + (i / 8) * 1, none⟩ (byteV (k.getD (i / 8) 0)) from by rw [Nat.mul_one]; exact Rd.at z_A (bytes_get zw))) ?_
  refine z0 (V1.rem (c := ((i % 8 : Nat) : Int)) rfl rfl ze (by rw [(show (((i + 1 : Nat) : Int) - 1) = (i : Int) from by omega), show ((i : Int).tmod 8) = ((i % 8 : Nat) : Int) from (Int.ofNat_tmod i 8).symm])) ?_
  refine z0 (V1.shrW (a := (k.getD (i / 8) 0).toBitVec) (k := i % 8) u8U rfl rfl) ?_
  refine z0 (V1.andW (a := (k.getD (i / 8) 0).toBitVec >>> (i % 8)) (b := 1#8) u8U rfl rfl) ?_
  refine zc (T1.eqI_split rfl rfl (fun h6 => ?_) (fun h6 => ?_))
  ·
   have hbit : leN k / 2 ^ i % 2 = 1 := by rw [← hbt]; omega
   refine TL.nil ?_
   refine T.cond_t rfl (T.region (z0 (V1.loadN one_84 sz_84 rfl (RdN.whole z_A) zr) ?_))
   refine z0 (V1.loadN one_84 sz_84 rfl (RdN.whole z_A) zr) ?_
   refine z0 (V1.loadN one_82 sz_82 rfl (RdN.whole z_A) zr) ?_
   refine zc (T1.call0 has_53 rfl (fun w hs => Pplus_any hy2 hp dF_spec w) (fun v hv => ?_))
   obtain ⟨y3, rfl, hy3⟩ := hv
   refine zc (T1.storeN rfl rfl sz_84 (ones rfl) z_H zr zr ?_)
   refine TL.nil ?_
   refine T.live (l := [(2, _), (3, _), (4, _), (5, _), (6, _), (7, _)]) zT (fun e_ => ?_)
   refine zs ?_
   refine zq1 (V1.sub (c := (i : Int) - 1) rfl rfl z_J) ?_
   exact ⟨(i, y3), ⟨b6, 0, feC dF, 5⟩ :: ⟨b5, 0, ptC y3, 20⟩ :: ⟨b4, 0, [.int .u64 0, .int .u64 0, .int .u64 0, .int .u64 0, .int .u64 0, .int .u64 0, .int .u64 0, .int .u64 0, .int .u64 0, .int .u64 0, .int .u64 0, .int .u64 0, .int .u64 0, .int .u64 0, .int .u64 0, .int .u64 0, .int .u64 0, .int .u64 0, .int .u64 0, .int .u64 0], 20⟩ :: ⟨b3, 0, k.map byteV, 32⟩ :: ⟨b2, 0, ptC p, 20⟩ :: [], _, z_N, (.cons (congrArg (Value.int .i64) (by first | rfl | omega)) .nil), (.cons rfl (.cons rfl (.cons rfl (.cons rfl (.cons rfl .nil))))), z_B, ⟨rfl, by simp only; rw [smul_bit1 hbit]; exact hy3, by simp only; omega⟩⟩
  ·
   have hbit : leN k / 2 ^ i % 2 = 0 := by have := Nat.mod_lt (leN k / 2 ^ i) (show 2 > 0 by decide); rw [hbt] at h6; omega
   refine TL.nil ?_
   refine T.cond_f rfl (zs ?_)
   refine zq1 (V1.sub (c := (i : Int) - 1) rfl rfl z_J) ?_
   exact ⟨(i, y2), ⟨b6, 0, feC dF, 5⟩ :: ⟨b5, 0, ptC y2, 20⟩ :: ⟨b4, 0, [.int .u64 0, .int .u64 0, .int .u64 0, .int .u64 0, .int .u64 0, .int .u64 0, .int .u64 0, .int .u64 0, .int .u64 0, .int .u64 0, .int .u64 0, .int .u64 0, .int .u64 0, .int .u64 0, .int .u64 0, .int .u64 0, .int .u64 0, .int .u64 0, .int .u64 0, .int .u64 0], 20⟩ :: ⟨b3, 0, k.map byteV, 32⟩ :: ⟨b2, 0, ptC p, 20⟩ :: [], _, z_N, (.cons (congrArg (Value.int .i64) (by first | rfl | omega)) .nil), (.cons rfl (.cons rfl (.cons rfl (.cons rfl (.cons rfl .nil))))), z_B, ⟨rfl, by simp only; rw [smul_bit0 hbit]; exact hy2, by simp only; omega⟩⟩
 ·
  simp only at h3
  obtain rfl : r = 0 := by omega
  refine TL.nil ?_
  refine T.cond_f rfl (zs ?_)
  refine z0 (V1.loadN one_84 sz_84 rfl (RdN.whole z_A) zr) ?_
  refine zc (T1.storeN rfl rfl sz_84 (ones rfl) z_H zr zr ?_)
  refine zs ?_
  exact ⟨_, [], _, .cons (.cellN (vs := ptC y) z_C one_84 sz_84 (RdN.whole z_A) (by kernel_rfl)) .nil, Take.nil, rfl, y, rfl, by rw [low_all] at hy; exact hy⟩
theorem Encode_pt {A : Pt crv} {p : P4} (hp : PtR A p) (w : World) : Fn P 26 [ptV p] w [] (fun v Y => Y = [] ∧ v = .agg ((encP A).map byteV).toArray) := by
 refine Fn.of 23 [.cell 2 36] Go.Proofs.Tryz.func26 rfl rfl rfl rfl ?_
 refine zs ?_
 refine zc (T1.boxN (vs := ptC p) 20 rfl rfl (fun b1 => ?_))
 refine zc (T1.allocN 32 zr_36 rfl (fun b2 => zs ?_))
 refine z0 (V1.fieldAddr fl_84_2 rfl) ?_
 refine z0 (V1.loadN (vs := feC p.z) one_82 sz_82 rfl (RdN.sub (o := 10) (k := 5) (cells := ptC p) z_A) rfl) ?_
 refine zc (T1.call0 has_56 rfl (fun w hs => Invert_any p.z w hp.1.2.2.1) (fun v hv => ?_))
 obtain ⟨z, rfl, hzn, hzf⟩ := hv
 have mx := mulF_spec hp.1.1 hzn
 have my := mulF_spec hp.1.2.1 hzn
 rw [hzf] at mx my
 have xy := Pj.xy hp.2
 have ex : (mulF p.x z).fe = A.x := mx.2.trans xy.1
 have ey : (mulF p.y z).fe = A.y := my.2.trans xy.2
 refine zc (T1.allocN 5 zr_82 rfl (fun b3 => ?_))
 refine zc (T1.storeN rfl rfl sz_82 (ones rfl) z_H zr zr ?_)
 refine zs ?_
 refine z0 (V1.fieldAddr fl_84_1 rfl) ?_
 refine z0 (V1.loadN (vs := feC p.y) one_82 sz_82 rfl (RdN.sub (o := 5) (k := 5) (cells := ptC p) z_A) rfl) ?_
 refine z0 (V1.loadN one_82 sz_82 rfl (RdN.whole z_A) zr) ?_
 refine zc (T1.call0 has_49 rfl (fun w hs => Mul_any p.y z w) (fun v hv => ?_))
 subst hv
 refine zc (T1.call0 has_57 rfl (fun w hs => Bytes_to my.1 ey w) (fun v hv => ?_))
 subst hv
 refine zc (T1.allocN 32 zr_36 rfl (fun b4 => ?_))
 refine zc (T1.storeN rfl rfl sz_36 (one_bytes _) z_H z_Q z_M ?_)
 refine zs ?_
 refine z0 (V1.fieldAddr fl_84_0 rfl) ?_
 refine z0 (V1.loadN (vs := feC p.x) one_82 sz_82 rfl (RdN.sub (o := 0) (k := 5) (cells := ptC p) z_A) rfl) ?_
 refine z0 (V1.loadN one_82 sz_82 rfl (RdN.whole z_A) zr) ?_
 refine zc (T1.call0 has_49 rfl (fun w hs => Mul_any p.x z w) (fun v hv => ?_))
 subst hv
 refine zc (T1.call0 has_58 rfl (fun w hs => Odd_to mx.1 ex w) (fun v hv => ?_))
 subst hv
 rcases hod : A.x.odd
 ·
  refine TL.nil ?_
  refine T.cond_f rfl (T.skip (T.seq (T.live (l := [(2, _), (4, _)]) zT (fun e_ => ?_))))
  refine T.region (z0 (V1.loadN (vs := (leF A.y.val).map byteV) one_36 sz_36 rfl (RdN.whole z_A) z_M) ?_)
  refine zc (T1.storeN rfl rfl sz_36 (one_bytes _) z_H z_Q z_M ?_)
  refine zs ?_
  exact ⟨_, [], _, .cons (.cellN (vs := (leF A.y.val).map byteV) z_C one_36 sz_36 (RdN.whole z_A) z_M) .nil, Take.nil, rfl, by rw [encF_f hod]; rfl⟩
 ·
  refine TL.nil ?_
  refine T.cond_t rfl (T.live (l := [(2, _), (4, _)]) zT (fun e_ => ?_))
  refine T.region (z0 (V1.indexAddrA ty_36 sz_5 rfl rfl ze ze) ?_)
  refine z0 (V1.load1 one_5 rfl (show Rd _ _ ⟨b4, 0 + 31 * 1, none⟩ (byteV ((leF A.y.val).getD 31 0)) from Rd.at z_A (bytes_get (by rw [leF_len]; decide)))) ?_
  refine z0 (V1.orW (a := ((leF A.y.val).getD 31 0).toBitVec) (b := 128#8) u8U rfl rfl) ?_
  refine z0 (V1.indexAddrA ty_36 sz_5 rfl rfl ze ze) ?_
  refine zc (T1.storeE (o := 0 + 31 * 1) (cells := (leF A.y.val).map byteV) (cells' := (leF (A.y.val + 2 ^ 255)).map byteV) rfl rfl sz_5 rfl (by rw [show 0 + 31 * 1 - 0 = 31 from rfl, ← leF_high (val_lt _), List.map_set]; rfl) z_H (Nat.zero_le _) (by rw [List.length_map, leF_len]; decide) ?_)
  refine zs ?_
  refine z0 (V1.loadN (vs := (leF (A.y.val + 2 ^ 255)).map byteV) one_36 sz_36 rfl (RdN.whole z_A) z_M) ?_
  refine zc (T1.storeN rfl rfl sz_36 (one_bytes _) z_H z_Q z_M ?_)
  refine zs ?_
  exact ⟨_, [], _, .cons (.cellN (vs := (leF (A.y.val + 2 ^ 255)).map byteV) z_C one_36 sz_36 (RdN.whole z_A) z_M) .nil, Take.nil, rfl, by rw [encF_t hod]; rfl⟩
end Go.Proofs.YtfjedhmffccgnaaGreatDoor.S
