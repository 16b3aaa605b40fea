/- What lies at a place of a disk. -/
import Derived.Test.YtmolpgnekcfimaaC2
namespace Go.Proofs.Ytmolpgnekcfimaa.S
open Go.RowKit

open Sh
theorem plc_piece {r i o k : Nat} {a : List UInt8} (h : o + k ≤ r) : ((plc r i a).drop o).take k = (a.drop (i * r + o)).take k := by
  unfold plc
  rw [List.drop_take, List.drop_drop, List.take_take, Nat.min_eq_left (by omega)]
theorem part_plc {w0 : World} {Ps : List Blk} {ba q c size r i o k : Nat} {a : List UInt8} (hB : (⟨ba, 0, List.map byteV a, size⟩ : Blk) ∈ Ps) (hq : q = i * r + o) (h : o + k ≤ r) (ha : i * r + r ≤ a.length) : PartR w0 Ps (.slice (some ⟨ba, q, none⟩) k c) (((plc r i a).drop o).take k) := by
  have hl : ((a.drop (i * r + o)).take k).length = k := by rw [List.length_take, List.length_drop]; omega
  have := PartR.piece (w0 := w0) (o := i * r + o) (c := c) hB (p := (a.drop (i * r + o)).take k) (by rw [hl, List.map_take, List.map_drop])
  rw [hl, Nat.zero_add] at this
  rw [plc_piece h, hq]; exact this
theorem V1.sliceMid {C : Ctx} {e : Env} {L : List Blk} {dst : Option Tmp} {ty : TypeId} {pos : String} {after : Array Edge} {guard : Option (Nat × Bool)} {t el : TypeId} {x : Operand} {lo hi : Option Operand} {b o len cap : Nat} (l n : Nat) (hT : C.P.underlying t = some (.slice el)) (hk : SizeIs C.P el 1) (hx : ev C.n e x = .slice (some ⟨b, o, none⟩) len cap)
    (hl : bd C.n e lo 0 = some (l : Int)) (hh : bd C.n e hi len = some ((l + n : Nat) : Int)) (h1 : l + n ≤ cap) (h2 : l < cap) : V1 C ⟨dst, .slice t x lo hi none, ty, pos, after, guard⟩ e L (.slice (some ⟨b, o + l, none⟩) n (cap - l)) := by
  have := V1.sliceSl (dst := dst) (ty := ty) (pos := pos) (after := after) (guard := guard) (L := L) hT hk hx hl hh (by omega) (by omega) (by omega)
  rw [Int.toNat_natCast, Int.toNat_natCast, if_neg (by omega), Nat.mul_one, show l + n - l = n from by omega] at this
  exact this
theorem okP_no {b : List UInt8} (h : ¬ (numP b ≠ 0 ∧ numP b < 281474976710656 ∧ lenP b ≤ b.length - 44)) : okP b = false := by
  unfold okP
  rw [decide_eq_false h]; rfl
theorem okP_if {b : List UInt8} (h : numP b ≠ 0 ∧ numP b < 281474976710656 ∧ lenP b ≤ b.length - 44) : okP b = decide (sha T256 (b.take 12 ++ valP b) = (b.drop 12).take 32) := by
  unfold okP
  rw [decide_eq_true h]; rfl
theorem numP_lt (b : List UInt8) : numP b < 18446744073709551616 := be8 _ (by rw [List.length_take]; omega)
theorem lenP_lt (b : List UInt8) : lenP b < 4294967296 := by
  unfold lenP
  have h1 := be_lt ((b.drop 8).take 4)
  have h2 : (256 : Nat) ^ ((b.drop 8).take 4).length ≤ 256 ^ 4 := Nat.pow_le_pow_right (by omega) (by rw [List.length_take]; omega)
  have e4 : (256 : Nat) ^ 4 = 4294967296 := by decide
  omega
/-- What looking at a place answers. -/
def LkR (b : List UInt8) (XA : List Blk) (v : Value) (Y : List Blk) : Prop := ∃ (n : Nat) (s : Value) (vv : List UInt8) (Ls : List Blk) (ok : Bool), v = .tuple #[.agg #[.int .u64 (n : Nat), s], .bool ok] ∧ Y = Ls ++ XA ∧ Sl s (vv.map byteV) 1 Ls ∧ ok = okP b ∧ (ok = true → n = numP b ∧ vv = valP b)

theorem srcV {w0 : World} {Ps L : List Blk} {C : Ctx} {a : Option Addr} {n c : Nat} {p : List UInt8} (h : PartR w0 Ps (.slice a n c) p) (hn : p.length = n) (hL : ∀ B ∈ Ps, B ∈ L) (h0 : C.w0 = w0 := by rfl) (hm : C.M = [] := by rfl) : Src C L 1 (.slice a n c) n (p.map byteV) := by
  have := h.src C h0 hm L hL
  rw [hn] at this; exact this
theorem part32 {w0 : World} {Ps : List Blk} {b n c size : Nat} {p : List UInt8} (hB : (⟨b, 0, p.map byteV, size⟩ : Blk) ∈ Ps) (hn : p.length = n) : PartR w0 Ps (.slice (some ⟨b, 0, none⟩) n c) p := by
  subst hn; exact PartR.front hB (by rw [List.take_of_length_le (by rw [List.length_map]; exact Nat.le_refl _)])

set_option maxRecDepth 100000 in
set_option maxHeartbeats 4000000 in
theorem look_any (w0 : World) (bd ba r i : Nat) (a : List UInt8) (pw : Int) (ha : a.length = 2 * r) (hr1 : 64 ≤ r) (hr2 : r ≤ 65536) (hi : i < 2) : FnX P 18 [.pointer (some ⟨bd, 0, none⟩), .int .i64 (i : Int)] w0 [] [(⟨bd, 0, [.slice (some ⟨ba, 0, none⟩) a.length a.length, .int .i64 pw], 2⟩ : Blk), (⟨ba, 0, List.map byteV a, a.length⟩ : Blk)] (fun v Y => LkR (plc r i a) [(⟨bd, 0, [.slice (some ⟨ba, 0, none⟩) a.length a.length, .int .i64 pw], 2⟩ : Blk), (⟨ba, 0, List.map byteV a, a.length⟩ : Blk)] v Y) := by
  have hal : a.length ≤ 1000000 := by omega
  have hir : i * r + r ≤ a.length := by rcases (show i = 0 ∨ i = 1 by omega) with rfl | rfl <;> omega
  have hbl : (plc r i a).length = r := plc_len hir
  refine FnX.of 67 [.cell 4 55, .tmp 5] Go.Proofs.Try.func18 rfl rfl rfl rfl (fun G => ?_)
  simp only [List.cons_append, List.nil_append]
  refine T.seq ?_
  refine T.region ?_
  refine TL.cons rfl (T1.allocN 2 zr_55 rfl (fun b4 => ?_))
  refine TL.cons rfl (V1.t (V1.assign' (by (conv => lhs; whnf) <;> rfl)) ?_)
  refine TL.nil ?_
  refine T.seq ?_
  refine T.drawK (fun L_ => Find L_ (⟨bd, 0, [.slice (some ⟨ba, 0, none⟩) a.length a.length, .int .i64 pw], 2⟩ : Blk)) mixed (by repeat (first | exact Find.here | assumption | apply Find.there | apply Find.far)) ?_
  refine TK.take 0 rfl (by decide +kernel) (by decide +kernel) (by decide +kernel) rfl (fun _ _ _ h => h) (fun L_ k1_ => V1.move' (by (conv => lhs; whnf) <;> rfl)) ?_
  refine TK.take 1 rfl (by decide +kernel) (by decide +kernel) (by decide +kernel) rfl (fun _ _ _ h => h) (fun L_ k1_ => V1.nilCheck rfl) ?_
  refine TK.take 2 rfl (by decide +kernel) (by decide +kernel) (by decide +kernel) rfl (fun _ _ _ h => h) (fun L_ k1_ => V1.fieldAddr fl_53_0 rfl) ?_
  refine TK.take 3 rfl (by decide +kernel) (by decide +kernel) (by decide +kernel) rfl (fun _ _ _ h => h) (fun L_ k1_ => V1.load1 one_33 rfl (.own (cells := [.slice (some ⟨ba, 0, none⟩) a.length a.length, .int .i64 pw]) (by repeat (first | exact Find.here | assumption | apply Find.there | apply Find.far)) (by rfl))) ?_
  refine TK.take 4 rfl (by decide +kernel) (by decide +kernel) (by decide +kernel) rfl (fun _ _ _ h => h) (fun L_ k1_ => V1.move' (by (conv => lhs; whnf) <;> rfl)) ?_
  refine TK.take 5 rfl (by decide +kernel) (by decide +kernel) (by decide +kernel) rfl (fun _ _ _ h => h) (fun L_ k1_ => V1.move' (by (conv => lhs; whnf) <;> rfl)) ?_
  refine TK.take 8 rfl (by decide +kernel) (by decide +kernel) (by decide +kernel) rfl (fun _ _ _ h => h) (fun L_ k1_ => V1.move' (by (conv => lhs; whnf) <;> rfl)) ?_
  refine TK.take 9 rfl (by decide +kernel) (by decide +kernel) (by decide +kernel) rfl (fun _ _ _ h => h) (fun L_ k1_ => V1.add (c := ((i + 1 : Nat) : Int)) rfl rfl (by rw [wrap_i64 _ (by omega) (by omega)]; omega)) ?_
  refine TK.take 10 rfl (by decide +kernel) (by decide +kernel) (by decide +kernel) rfl (fun _ _ _ h => h) (fun L_ k1_ => V1.move' (by (conv => lhs; whnf) <;> rfl)) ?_
  refine TK.one 6 (by decide +kernel) rfl rfl (T1.callX (X := [(⟨bd, 0, [.slice (some ⟨ba, 0, none⟩) a.length a.length, .int .i64 pw], 2⟩ : Blk)]) has_20 rfl (room_any _ bd ba a.length pw hal) (by repeat (first | exact Take.nil | apply Take.one (by repeat (first | exact Pick.here | apply Pick.there | apply Pick.far)) | apply Take.seg (by repeat (first | exact PickS.last | exact PickS.one | exact PickS.here | exact PickS.nil | apply PickS.there | apply PickS.far)) | exact Take.last (by repeat (first | exact PickS.last | exact PickS.one | exact PickS.here | exact PickS.nil | apply PickS.there | apply PickS.far)))) (fun v Y hY => ?_))
  obtain ⟨rfl, rfl⟩ := hY
  simp only [List.cons_append, List.nil_append]
  rw [show a.length / 2 = r from by omega]
  refine ⟨(by repeat (first | exact Find.here | assumption | apply Find.there | apply Find.far)), ?_⟩
  refine TK.take 7 rfl (by decide +kernel) (by decide +kernel) (by decide +kernel) rfl (fun _ _ _ h => h) (fun L_ k1_ => V1.mul (c := ((i * r : Nat) : Int)) rfl rfl (by rcases (show i = 0 ∨ i = 1 by omega) with rfl | rfl <;> (rw [wrap_i64 _ (by omega) (by omega)]; omega))) ?_
  refine TK.one 11 (by decide +kernel) rfl rfl (T1.callX (X := [(⟨bd, 0, [.slice (some ⟨ba, 0, none⟩) a.length a.length, .int .i64 pw], 2⟩ : Blk)]) has_20 rfl (room_any _ bd ba a.length pw hal) (by repeat (first | exact Take.nil | apply Take.one (by repeat (first | exact Pick.here | apply Pick.there | apply Pick.far)) | apply Take.seg (by repeat (first | exact PickS.last | exact PickS.one | exact PickS.here | exact PickS.nil | apply PickS.there | apply PickS.far)) | exact Take.last (by repeat (first | exact PickS.last | exact PickS.one | exact PickS.here | exact PickS.nil | apply PickS.there | apply PickS.far)))) (fun v Y hY => ?_))
  obtain ⟨rfl, rfl⟩ := hY
  simp only [List.cons_append, List.nil_append]
  rw [show a.length / 2 = r from by omega]
  refine ⟨(by repeat (first | exact Find.here | assumption | apply Find.there | apply Find.far)), ?_⟩
  refine TK.take 12 rfl (by decide +kernel) (by decide +kernel) (by decide +kernel) rfl (fun _ _ _ h => h) (fun L_ k1_ => V1.mul (c := ((i * r + r : Nat) : Int)) rfl rfl (by rcases (show i = 0 ∨ i = 1 by omega) with rfl | rfl <;> (rw [wrap_i64 _ (by omega) (by omega)]; omega))) ?_
  refine TK.take 13 rfl (by decide +kernel) (by decide +kernel) (by decide +kernel) rfl (fun _ _ _ h => h) (fun L_ k1_ => V1.sliceMid (i * r) r ty_33 sz_5 rfl rfl rfl hir (by omega)) ?_
  refine TK.take 14 rfl (by decide +kernel) (by decide +kernel) (by decide +kernel) rfl (fun _ _ _ h => h) (fun L_ k1_ => V1.assign' (by (conv => lhs; whnf) <;> rfl)) ?_
  refine TD.done (by decide +kernel) ?_
  refine T.seq ?_
  refine T.live (l := [(4, _), (6, _)]) (.cons (by (conv => lhs; whnf) <;> rfl) (.cons (by (conv => lhs; whnf) <;> rfl) .nil)) (fun e_ => ?_)
  refine T.region ?_
  refine TL.cons rfl (V1.t (V1.move' (by (conv => lhs; whnf) <;> rfl)) ?_)
  refine TL.cons rfl (V1.t (V1.sliceTo 8 ty_33 sz_5 rfl rfl rfl (by omega) (by omega)) ?_)
  refine TL.cons rfl (T1.callX (X := [(⟨ba, 0, List.map byteV a, a.length⟩ : Blk)]) has_26 rfl (number_any _ _ ((plc r i a).take 8) [(⟨ba, 0, List.map byteV a, a.length⟩ : Blk)] (part_plc (size := a.length) (o := 0) (k := 8) (by simp) (by omega) (by omega) hir) (by rw [List.length_take]; omega)) (by repeat (first | exact Take.nil | apply Take.one (by repeat (first | exact Pick.here | apply Pick.there | apply Pick.far)) | apply Take.seg (by repeat (first | exact PickS.last | exact PickS.one | exact PickS.here | exact PickS.nil | apply PickS.there | apply PickS.far)) | exact Take.last (by repeat (first | exact PickS.last | exact PickS.one | exact PickS.here | exact PickS.nil | apply PickS.there | apply PickS.far)))) (fun v Y hY => ?_))
  obtain ⟨rfl, rfl⟩ := hY
  simp only [List.cons_append, List.nil_append]
  have hnp := numP_lt (plc r i a)
  refine TL.cons rfl (V1.t (V1.buildF pl_55 zr_55 (.one rfl (by (conv => lhs; whnf) <;> rfl) rfl .nil) (by repeat (first | exact FillL.nil | exact SetN.done | apply SetN.here | apply SetN.there | apply FillL.cons))) ?_)
  refine TL.cons rfl (T1.allocN 2 zr_55 rfl (fun b7 => ?_))
  refine TL.cons rfl (T1.storeN (vs := [.int .u64 (numP (plc r i a) : Nat), .slice none 0 0]) rfl rfl sz_55 (ones rfl) (by repeat (first | exact Sub.one | apply Sub.there | apply Sub.far)) (by rfl) (by rfl) ?_)
  refine TL.nil ?_
  refine T.seq ?_
  refine T.region ?_
  refine TL.cons rfl (V1.t (V1.move' (by (conv => lhs; whnf) <;> rfl)) ?_)
  refine TL.cons rfl (V1.t (V1.sliceMid 8 4 ty_33 sz_5 rfl rfl rfl (by omega) (by omega)) ?_)
  refine TL.cons rfl (T1.callX (X := [(⟨ba, 0, List.map byteV a, a.length⟩ : Blk)]) has_26 rfl (number_any _ _ (((plc r i a).drop 8).take 4) [(⟨ba, 0, List.map byteV a, a.length⟩ : Blk)] (part_plc (size := a.length) (o := 8) (k := 4) (by simp) (by omega) (by omega) hir) (by rw [List.length_take]; omega)) (by repeat (first | exact Take.nil | apply Take.one (by repeat (first | exact Pick.here | apply Pick.there | apply Pick.far)) | apply Take.seg (by repeat (first | exact PickS.last | exact PickS.one | exact PickS.here | exact PickS.nil | apply PickS.there | apply PickS.far)) | exact Take.last (by repeat (first | exact PickS.last | exact PickS.one | exact PickS.here | exact PickS.nil | apply PickS.there | apply PickS.far)))) (fun v Y hY => ?_))
  obtain ⟨rfl, rfl⟩ := hY
  simp only [List.cons_append, List.nil_append]
  have hlp := lenP_lt (plc r i a)
  refine TL.cons rfl (V1.t (V1.assign' (v := .int .u64 (lenP (plc r i a) : Nat)) rfl) ?_)
  refine TL.nil ?_
  refine T.seq ?_
  refine T.seq ?_
  refine T.region ?_
  refine TL.cons rfl (V1.t (V1.fieldAddr fl_55_0 rfl) ?_)
  refine TL.cons rfl (V1.t (V1.load1 one_32 rfl (.own (cells := [.int .u64 (numP (plc r i a) : Nat), .slice none 0 0]) (by repeat (first | exact Find.here | assumption | apply Find.there | apply Find.far)) (by rfl))) ?_)
  refine TL.cons rfl (T1.eqI_split rfl rfl (fun h4_2 => ?_) (fun h4_2 => ?_))
  ·
    refine TL.cons rfl (V1.t (V1.move' (by (conv => lhs; whnf) <;> rfl)) ?_)
    refine TL.no rfl ?_
    refine TL.no rfl ?_
    refine TL.no rfl ?_
    refine TL.no rfl ?_
    refine TL.cons rfl (V1.t (V1.pick rfl (by (conv => lhs; whnf) <;> rfl)) ?_)
    refine TL.cons rfl (V1.t (V1.move' (by (conv => lhs; whnf) <;> rfl)) ?_)
    refine TL.no rfl ?_
    refine TL.no rfl ?_
    refine TL.no rfl ?_
    refine TL.no rfl ?_
    refine TL.no rfl ?_
    refine TL.no rfl ?_
    refine TL.cons rfl (V1.t (V1.pick rfl (by (conv => lhs; whnf) <;> rfl)) ?_)
    refine TL.nil ?_
    refine T.cond_t rfl ?_
    refine T.seq ?_
    refine T.live (l := [(4, _)]) (.cons (by (conv => lhs; whnf) <;> rfl) .nil) (fun e_ => ?_)
    refine T.region ?_
    refine TL.cons rfl (V1.t (V1.build0 pl_55 zr_55) ?_)
    refine TL.cons rfl (T1.storeN (vs := [.int .u64 0, .slice none 0 0]) rfl rfl sz_55 (ones rfl) (by repeat (first | exact Sub.one | apply Sub.there | apply Sub.far)) (by rfl) (by rfl) ?_)
    refine TL.cons rfl (V1.t (V1.assign' (by (conv => lhs; whnf) <;> rfl)) ?_)
    refine TL.nil ?_
    refine T.ret ?_
    exact ⟨_, (⟨bd, 0, [.slice (some ⟨ba, 0, none⟩) a.length a.length, .int .i64 pw], 2⟩ : Blk) :: (⟨ba, 0, List.map byteV a, a.length⟩ : Blk) :: G, _, .cons (.cellN (by (conv => lhs; whnf) <;> rfl) one_55 sz_55 (RdN.whole (cells := [.int .u64 0, .slice none 0 0]) (by repeat (first | exact Find.here | assumption | apply Find.there | apply Find.far))) (by rfl)) (.cons (.tmp (by (conv => lhs; whnf) <;> rfl)) .nil), (by repeat (first | exact Take.nil | apply Take.one (by repeat (first | exact Pick.here | apply Pick.there | apply Pick.far)) | apply Take.seg (by repeat (first | exact PickS.last | exact PickS.one | exact PickS.here | exact PickS.nil | apply PickS.there | apply PickS.far)) | exact Take.last (by repeat (first | exact PickS.last | exact PickS.one | exact PickS.here | exact PickS.nil | apply PickS.there | apply PickS.far)))), [(⟨bd, 0, [.slice (some ⟨ba, 0, none⟩) a.length a.length, .int .i64 pw], 2⟩ : Blk), (⟨ba, 0, List.map byteV a, a.length⟩ : Blk)], rfl, 0, _, [], [], false, rfl, rfl, Sl.nil, (okP_no (by rw [hbl]; omega)).symm, fun h => by cases h⟩
  ·
    refine TL.cons rfl (V1.t (V1.move' (by (conv => lhs; whnf) <;> rfl)) ?_)
    refine TL.cons rfl (V1.t (V1.fieldAddr fl_55_0 rfl) ?_)
    refine TL.cons rfl (V1.t (V1.load1 one_32 rfl (.own (cells := [.int .u64 (numP (plc r i a) : Nat), .slice none 0 0]) (by repeat (first | exact Find.here | assumption | apply Find.there | apply Find.far)) (by rfl))) ?_)
    refine TL.cons rfl (V1.t (V1.shrW (a := BitVec.ofNat 64 (numP (plc r i a))) (k := 48) u64U (congrArg (fun z : Nat => Value.int .u64 (z : Int)) (show numP (plc r i a) = (BitVec.ofNat 64 (numP (plc r i a))).toNat from by rw [BitVec.toNat_ofNat]; exact (Nat.mod_eq_of_lt hnp).symm)) rfl) ?_)
    have hsh : (BitVec.ofNat 64 (numP (plc r i a)) >>> 48).toNat = numP (plc r i a) / 281474976710656 := by rw [BitVec.toNat_ushiftRight, BitVec.toNat_ofNat, Nat.shiftRight_eq_div_pow, Nat.mod_eq_of_lt hnp]
    refine TL.cons rfl (T1.gtI_split rfl rfl (fun h4_7 => ?_) (fun h4_7 => ?_))
    ·
      refine TL.cons rfl (V1.t (V1.pick rfl (by (conv => lhs; whnf) <;> rfl)) ?_)
      refine TL.cons rfl (V1.t (V1.move' (by (conv => lhs; whnf) <;> rfl)) ?_)
      refine TL.no rfl ?_
      refine TL.no rfl ?_
      refine TL.no rfl ?_
      refine TL.no rfl ?_
      refine TL.no rfl ?_
      refine TL.no rfl ?_
      refine TL.cons rfl (V1.t (V1.pick rfl (by (conv => lhs; whnf) <;> rfl)) ?_)
      refine TL.nil ?_
      refine T.cond_t rfl ?_
      refine T.seq ?_
      refine T.live (l := [(4, _)]) (.cons (by (conv => lhs; whnf) <;> rfl) .nil) (fun e_ => ?_)
      refine T.region ?_
      refine TL.cons rfl (V1.t (V1.build0 pl_55 zr_55) ?_)
      refine TL.cons rfl (T1.storeN (vs := [.int .u64 0, .slice none 0 0]) rfl rfl sz_55 (ones rfl) (by repeat (first | exact Sub.one | apply Sub.there | apply Sub.far)) (by rfl) (by rfl) ?_)
      refine TL.cons rfl (V1.t (V1.assign' (by (conv => lhs; whnf) <;> rfl)) ?_)
      refine TL.nil ?_
      refine T.ret ?_
      exact ⟨_, (⟨bd, 0, [.slice (some ⟨ba, 0, none⟩) a.length a.length, .int .i64 pw], 2⟩ : Blk) :: (⟨ba, 0, List.map byteV a, a.length⟩ : Blk) :: G, _, .cons (.cellN (by (conv => lhs; whnf) <;> rfl) one_55 sz_55 (RdN.whole (cells := [.int .u64 0, .slice none 0 0]) (by repeat (first | exact Find.here | assumption | apply Find.there | apply Find.far))) (by rfl)) (.cons (.tmp (by (conv => lhs; whnf) <;> rfl)) .nil), (by repeat (first | exact Take.nil | apply Take.one (by repeat (first | exact Pick.here | apply Pick.there | apply Pick.far)) | apply Take.seg (by repeat (first | exact PickS.last | exact PickS.one | exact PickS.here | exact PickS.nil | apply PickS.there | apply PickS.far)) | exact Take.last (by repeat (first | exact PickS.last | exact PickS.one | exact PickS.here | exact PickS.nil | apply PickS.there | apply PickS.far)))), [(⟨bd, 0, [.slice (some ⟨ba, 0, none⟩) a.length a.length, .int .i64 pw], 2⟩ : Blk), (⟨ba, 0, List.map byteV a, a.length⟩ : Blk)], rfl, 0, _, [], [], false, rfl, rfl, Sl.nil, (okP_no (by rw [hbl]; omega)).symm, fun h => by cases h⟩
    ·
      refine TL.cons rfl (V1.t (V1.pick rfl (by (conv => lhs; whnf) <;> rfl)) ?_)
      refine TL.cons rfl (V1.t (V1.move' (by (conv => lhs; whnf) <;> rfl)) ?_)
      refine TL.cons rfl (V1.t (V1.move' (by (conv => lhs; whnf) <;> rfl)) ?_)
      refine TL.cons rfl (V1.t (V1.move' (by (conv => lhs; whnf) <;> rfl)) ?_)
      refine TL.cons rfl (V1.t (V1.lenSl ty_33 rfl) ?_)
      refine TL.cons rfl (V1.t (V1.sub (c := ((r - 44 : Nat) : Int)) rfl rfl (by rw [wrap_i64 _ (by omega) (by omega)]; omega)) ?_)
      refine TL.cons rfl (V1.t (V1.conv (c := ((r - 44 : Nat) : Int)) ty_3 ty_32 rfl (by rw [wrap_u64 _ (by omega) (by omega)])) ?_)
      refine TL.cons rfl (T1.gtI_split rfl rfl (fun h4_15 => ?_) (fun h4_15 => ?_))
      ·
        refine TL.cons rfl (V1.t (V1.pick rfl (by (conv => lhs; whnf) <;> rfl)) ?_)
        refine TL.nil ?_
        refine T.cond_t rfl ?_
        refine T.seq ?_
        refine T.live (l := [(4, _)]) (.cons (by (conv => lhs; whnf) <;> rfl) .nil) (fun e_ => ?_)
        refine T.region ?_
        refine TL.cons rfl (V1.t (V1.build0 pl_55 zr_55) ?_)
        refine TL.cons rfl (T1.storeN (vs := [.int .u64 0, .slice none 0 0]) rfl rfl sz_55 (ones rfl) (by repeat (first | exact Sub.one | apply Sub.there | apply Sub.far)) (by rfl) (by rfl) ?_)
        refine TL.cons rfl (V1.t (V1.assign' (by (conv => lhs; whnf) <;> rfl)) ?_)
        refine TL.nil ?_
        refine T.ret ?_
        exact ⟨_, (⟨bd, 0, [.slice (some ⟨ba, 0, none⟩) a.length a.length, .int .i64 pw], 2⟩ : Blk) :: (⟨ba, 0, List.map byteV a, a.length⟩ : Blk) :: G, _, .cons (.cellN (by (conv => lhs; whnf) <;> rfl) one_55 sz_55 (RdN.whole (cells := [.int .u64 0, .slice none 0 0]) (by repeat (first | exact Find.here | assumption | apply Find.there | apply Find.far))) (by rfl)) (.cons (.tmp (by (conv => lhs; whnf) <;> rfl)) .nil), (by repeat (first | exact Take.nil | apply Take.one (by repeat (first | exact Pick.here | apply Pick.there | apply Pick.far)) | apply Take.seg (by repeat (first | exact PickS.last | exact PickS.one | exact PickS.here | exact PickS.nil | apply PickS.there | apply PickS.far)) | exact Take.last (by repeat (first | exact PickS.last | exact PickS.one | exact PickS.here | exact PickS.nil | apply PickS.there | apply PickS.far)))), [(⟨bd, 0, [.slice (some ⟨ba, 0, none⟩) a.length a.length, .int .i64 pw], 2⟩ : Blk), (⟨ba, 0, List.map byteV a, a.length⟩ : Blk)], rfl, 0, _, [], [], false, rfl, rfl, Sl.nil, (okP_no (by rw [hbl]; omega)).symm, fun h => by cases h⟩
      ·
        have hvl : (valP (plc r i a)).length = lenP (plc r i a) := by unfold valP; rw [List.length_take, List.length_drop, hbl]; omega
        have hpv : PartR w0 [(⟨ba, 0, List.map byteV a, a.length⟩ : Blk)] (.slice (some ⟨ba, 0 + i * r + 44, none⟩) (lenP (plc r i a)) (a.length - i * r - 44)) (valP (plc r i a)) := part_plc (size := a.length) (o := 44) (k := lenP (plc r i a)) (List.mem_cons_self ..) (by omega) (by omega) hir
        refine TL.cons rfl (V1.t (V1.pick rfl (by (conv => lhs; whnf) <;> rfl)) ?_)
        refine TL.nil ?_
        refine T.cond_f rfl ?_
        refine T.skip ?_
        refine T.seq ?_
        refine T.live (l := [(4, _), (6, _), (7, _), (8, _)]) (.cons (by (conv => lhs; whnf) <;> rfl) (.cons (by (conv => lhs; whnf) <;> rfl) (.cons (by (conv => lhs; whnf) <;> rfl) (.cons (by (conv => lhs; whnf) <;> rfl) .nil)))) (fun e_ => ?_)
        refine T.region ?_
        refine TL.cons rfl (T1.buildSl1 (os := []) ty_33 sz_5 zr_5 (by decide) rfl .nil rfl (ones rfl) (fun b49 => ?_))
        refine TL.cons rfl (V1.t (V1.move' (by (conv => lhs; whnf) <;> rfl)) ?_)
        refine TL.cons rfl (V1.t (V1.move' (by (conv => lhs; whnf) <;> rfl)) ?_)
        refine TL.cons rfl (V1.t (V1.add (c := ((44 + lenP (plc r i a) : Nat) : Int)) rfl rfl (by rw [wrap_u64 _ (by omega) (by omega)]; omega)) ?_)
        refine TL.cons rfl (V1.t (V1.sliceMid 44 (lenP (plc r i a)) ty_33 sz_5 rfl rfl rfl (by omega) (by omega)) ?_)
        refine TL.cons rfl (T1.append ty_33 kd_33 sz_5 by_5 zr_5 rfl (by decide) (by decide) rfl rfl (Sl.mk (b := b49) (xs := []) (len := 0) (cap := 0) (size := 0) rfl (Nat.le_refl _) (Nat.le_refl _)) (srcV hpv hvl (by intro B hB; obtain rfl := List.mem_singleton.1 hB; simp)) (one_bytes (valP (plc r i a))) 200000000000000 (by rw [List.length_map, hvl, List.length_nil]; omega) (by omega) (by repeat (first | exact PickS.last | exact PickS.one | exact PickS.here | exact PickS.nil | apply PickS.there | apply PickS.far)) (fun s1 Ls1 hs1 => ?_))
        rw [List.nil_append] at hs1
        obtain ⟨sa, sc, rfl⟩ := (PartR.own (w0 := w0) (Ps := Ls1) hs1 (fun _ h => h)).form
        refine TL.cons rfl (V1.t (V1.fieldAddr fl_55_1 rfl) ?_)
        refine TL.cons rfl (T1.store1 (cells := [.int .u64 (numP (plc r i a) : Nat), .slice none 0 0]) (cells' := [.int .u64 (numP (plc r i a) : Nat), .slice sa (valP (plc r i a)).length sc]) (v := .slice sa (valP (plc r i a)).length sc) rfl rfl sz_33 rfl (by repeat (first | exact Sub.one | apply Sub.there | apply Sub.far)) (Nat.zero_le _) (by repeat (first | exact SetAt.here | apply SetAt.there)) ?_)
        refine TL.nil ?_
        refine T.cut (σ := Nat) (l0 := [(4, _), (6, _), (7, _)]) (fun x => [(9, .pointer (some ⟨x, 0, none⟩))]) (fun x L => L = ⟨x, 0, (sha T256 ((plc r i a).take 12 ++ valP (plc r i a))).map byteV, 32⟩ :: ⟨b7, 0, [.int .u64 (numP (plc r i a) : Nat), .slice sa (valP (plc r i a)).length sc], 2⟩ :: ⟨b4, 0, [.int .u64 0, .slice none 0 0], 2⟩ :: (Ls1 ++ ((⟨bd, 0, [.slice (some ⟨ba, 0, none⟩) a.length a.length, .int .i64 pw], 2⟩ : Blk) :: (⟨ba, 0, List.map byteV a, a.length⟩ : Blk) :: G))) (.cons (by (conv => lhs; whnf) <;> rfl) (.cons (by (conv => lhs; whnf) <;> rfl) (.cons (by (conv => lhs; whnf) <;> rfl) .nil))) ?_ ?_
        ·
          refine T.drawU mixed ?_
          refine TU.take 0 rfl (by decide +kernel) (by decide +kernel) (by decide +kernel) rfl (fun _ _ _ h => h) (fun _ => V1.move' (by (conv => lhs; whnf) <;> rfl)) ?_
          refine TU.take 1 rfl (by decide +kernel) (by decide +kernel) (by decide +kernel) rfl (fun _ _ _ h => h) (fun _ => V1.sliceTo 12 ty_33 sz_5 rfl rfl rfl (by omega) (by omega)) ?_
          refine TU.take 2 rfl (by decide +kernel) (by decide +kernel) (by decide +kernel) rfl (fun _ _ _ h => h) (fun _ => V1.fieldAddr fl_55_1 rfl) ?_
          refine TU.two 3 6 (by decide +kernel) rfl rfl rfl rfl (V1.t (V1.load1 one_33 rfl (.own (cells := [.int .u64 (numP (plc r i a) : Nat), .slice sa (valP (plc r i a)).length sc]) (by repeat (first | exact Find.here | assumption | apply Find.there | apply Find.far)) (by rfl))) ?_) (T1.allocN 32 zr_63 rfl (fun b9 => ?_))
          ·
            refine TU.two 4 6 (by decide +kernel) rfl rfl rfl rfl (T1.buildSl1 (os := [.tmp 57, .tmp 59]) (vs := [.slice (some ⟨ba, 0 + i * r, none⟩) 12 (a.length - i * r), .slice sa (valP (plc r i a)).length sc]) ty_22 sz_33 zr_33 (by decide) rfl (.cons rfl (.cons rfl .nil)) rfl (ones rfl) (fun b60 => ?_)) (T1.allocN 32 zr_63 rfl (fun b9 => ?_))
            ·
              refine TU.two 5 6 (by decide +kernel) rfl rfl rfl rfl (T1.callX (X := (⟨b60, 0, [.slice (some ⟨ba, 0 + i * r, none⟩) 12 (a.length - i * r), .slice sa (valP (plc r i a)).length sc], 2⟩ :: (⟨ba, 0, List.map byteV a, a.length⟩ : Blk) :: Ls1 : List Blk)) has_22 rfl (Sum256_any _ _ [(plc r i a).take 12, valP (plc r i a)] (⟨b60, 0, [.slice (some ⟨ba, 0 + i * r, none⟩) 12 (a.length - i * r), .slice sa (valP (plc r i a)).length sc], 2⟩ :: (⟨ba, 0, List.map byteV a, a.length⟩ : Blk) :: Ls1) (PartsR.ones (svs := [.slice (some ⟨ba, 0 + i * r, none⟩) 12 (a.length - i * r), .slice sa (valP (plc r i a)).length sc]) (size := 2) (by simp) rfl (two_parts (part_plc (size := a.length) (o := 0) (k := 12) (by simp) (by omega) (by omega) hir) (PartR.own hs1 (fun _ h => List.mem_cons_of_mem _ (List.mem_cons_of_mem _ h))))) (two_len (by rw [List.length_take]; omega) (by omega)) (show 2 < 9223372036854775807 by decide) (by simp; omega)) (by repeat (first | exact Take.nil | apply Take.one (by repeat (first | exact Pick.here | apply Pick.there | apply Pick.far)) | apply Take.seg (by repeat (first | exact PickS.last | exact PickS.one | exact PickS.here | exact PickS.nil | apply PickS.there | apply PickS.far)) | exact Take.last (by repeat (first | exact PickS.last | exact PickS.one | exact PickS.here | exact PickS.nil | apply PickS.there | apply PickS.far)))) (fun v Y hY => ?_)) (T1.allocN 32 zr_63 rfl (fun b9 => ?_))
              ·
                obtain ⟨rfl, hzz⟩ := hY
                rw [hzz, show ([(plc r i a).take 12, valP (plc r i a)] : List (List UInt8)).flatten = (plc r i a).take 12 ++ valP (plc r i a) from by simp]
                simp only [List.cons_append, List.nil_append, List.append_assoc]
                refine TU.one 6 (by decide +kernel) rfl rfl (T1.allocN 32 zr_63 rfl (fun b9 => ?_))
                refine TU.one 7 (by decide +kernel) rfl rfl (T1.storeN (vs := (sha T256 ((plc r i a).take 12 ++ valP (plc r i a))).map byteV) rfl rfl sz_63 (one_bytes _) (by repeat (first | exact Sub.one | apply Sub.there | apply Sub.far)) (by rw [List.length_map, sha_len]; rfl) (by rw [List.length_map, sha_len]) ?_)
                refine TU.done (by decide +kernel) ?_
                exact ⟨b9, _, _, trivial, (.cons rfl .nil), (.cons rfl (.cons rfl (.cons rfl .nil))), (by repeat (first | exact Take.nil | apply Take.one (by repeat (first | exact Pick.here | apply Pick.there | apply Pick.far)) | apply Take.seg (by repeat (first | exact PickS.last | exact PickS.one | exact PickS.here | exact PickS.nil | apply PickS.there | apply PickS.far)) | exact Take.last (by repeat (first | exact PickS.last | exact PickS.one | exact PickS.here | exact PickS.nil | apply PickS.there | apply PickS.far)))), rfl⟩
              ·
                refine TU.one 5 (by decide +kernel) rfl rfl (T1.callX (X := (⟨b60, 0, [.slice (some ⟨ba, 0 + i * r, none⟩) 12 (a.length - i * r), .slice sa (valP (plc r i a)).length sc], 2⟩ :: (⟨ba, 0, List.map byteV a, a.length⟩ : Blk) :: Ls1 : List Blk)) has_22 rfl (Sum256_any _ _ [(plc r i a).take 12, valP (plc r i a)] (⟨b60, 0, [.slice (some ⟨ba, 0 + i * r, none⟩) 12 (a.length - i * r), .slice sa (valP (plc r i a)).length sc], 2⟩ :: (⟨ba, 0, List.map byteV a, a.length⟩ : Blk) :: Ls1) (PartsR.ones (svs := [.slice (some ⟨ba, 0 + i * r, none⟩) 12 (a.length - i * r), .slice sa (valP (plc r i a)).length sc]) (size := 2) (by simp) rfl (two_parts (part_plc (size := a.length) (o := 0) (k := 12) (by simp) (by omega) (by omega) hir) (PartR.own hs1 (fun _ h => List.mem_cons_of_mem _ (List.mem_cons_of_mem _ h))))) (two_len (by rw [List.length_take]; omega) (by omega)) (show 2 < 9223372036854775807 by decide) (by simp; omega)) (by repeat (first | exact Take.nil | apply Take.one (by repeat (first | exact Pick.here | apply Pick.there | apply Pick.far)) | apply Take.seg (by repeat (first | exact PickS.last | exact PickS.one | exact PickS.here | exact PickS.nil | apply PickS.there | apply PickS.far)) | exact Take.last (by repeat (first | exact PickS.last | exact PickS.one | exact PickS.here | exact PickS.nil | apply PickS.there | apply PickS.far)))) (fun v Y hY => ?_))
                obtain ⟨rfl, hzz⟩ := hY
                rw [hzz, show ([(plc r i a).take 12, valP (plc r i a)] : List (List UInt8)).flatten = (plc r i a).take 12 ++ valP (plc r i a) from by simp]
                simp only [List.cons_append, List.nil_append, List.append_assoc]
                refine TU.one 7 (by decide +kernel) rfl rfl (T1.storeN (vs := (sha T256 ((plc r i a).take 12 ++ valP (plc r i a))).map byteV) rfl rfl sz_63 (one_bytes _) (by repeat (first | exact Sub.one | apply Sub.there | apply Sub.far)) (by rw [List.length_map, sha_len]; rfl) (by rw [List.length_map, sha_len]) ?_)
                refine TU.done (by decide +kernel) ?_
                exact ⟨b9, _, _, trivial, (.cons rfl .nil), (.cons rfl (.cons rfl (.cons rfl .nil))), (by repeat (first | exact Take.nil | apply Take.one (by repeat (first | exact Pick.here | apply Pick.there | apply Pick.far)) | apply Take.seg (by repeat (first | exact PickS.last | exact PickS.one | exact PickS.here | exact PickS.nil | apply PickS.there | apply PickS.far)) | exact Take.last (by repeat (first | exact PickS.last | exact PickS.one | exact PickS.here | exact PickS.nil | apply PickS.there | apply PickS.far)))), rfl⟩
            ·
              refine TU.one 4 (by decide +kernel) rfl rfl (T1.buildSl1 (os := [.tmp 57, .tmp 59]) (vs := [.slice (some ⟨ba, 0 + i * r, none⟩) 12 (a.length - i * r), .slice sa (valP (plc r i a)).length sc]) ty_22 sz_33 zr_33 (by decide) rfl (.cons rfl (.cons rfl .nil)) rfl (ones rfl) (fun b60 => ?_))
              refine TU.one 5 (by decide +kernel) rfl rfl (T1.callX (X := (⟨b60, 0, [.slice (some ⟨ba, 0 + i * r, none⟩) 12 (a.length - i * r), .slice sa (valP (plc r i a)).length sc], 2⟩ :: (⟨ba, 0, List.map byteV a, a.length⟩ : Blk) :: Ls1 : List Blk)) has_22 rfl (Sum256_any _ _ [(plc r i a).take 12, valP (plc r i a)] (⟨b60, 0, [.slice (some ⟨ba, 0 + i * r, none⟩) 12 (a.length - i * r), .slice sa (valP (plc r i a)).length sc], 2⟩ :: (⟨ba, 0, List.map byteV a, a.length⟩ : Blk) :: Ls1) (PartsR.ones (svs := [.slice (some ⟨ba, 0 + i * r, none⟩) 12 (a.length - i * r), .slice sa (valP (plc r i a)).length sc]) (size := 2) (by simp) rfl (two_parts (part_plc (size := a.length) (o := 0) (k := 12) (by simp) (by omega) (by omega) hir) (PartR.own hs1 (fun _ h => List.mem_cons_of_mem _ (List.mem_cons_of_mem _ h))))) (two_len (by rw [List.length_take]; omega) (by omega)) (show 2 < 9223372036854775807 by decide) (by simp; omega)) (by repeat (first | exact Take.nil | apply Take.one (by repeat (first | exact Pick.here | apply Pick.there | apply Pick.far)) | apply Take.seg (by repeat (first | exact PickS.last | exact PickS.one | exact PickS.here | exact PickS.nil | apply PickS.there | apply PickS.far)) | exact Take.last (by repeat (first | exact PickS.last | exact PickS.one | exact PickS.here | exact PickS.nil | apply PickS.there | apply PickS.far)))) (fun v Y hY => ?_))
              obtain ⟨rfl, hzz⟩ := hY
              rw [hzz, show ([(plc r i a).take 12, valP (plc r i a)] : List (List UInt8)).flatten = (plc r i a).take 12 ++ valP (plc r i a) from by simp]
              simp only [List.cons_append, List.nil_append, List.append_assoc]
              refine TU.one 7 (by decide +kernel) rfl rfl (T1.storeN (vs := (sha T256 ((plc r i a).take 12 ++ valP (plc r i a))).map byteV) rfl rfl sz_63 (one_bytes _) (by repeat (first | exact Sub.one | apply Sub.there | apply Sub.far)) (by rw [List.length_map, sha_len]; rfl) (by rw [List.length_map, sha_len]) ?_)
              refine TU.done (by decide +kernel) ?_
              exact ⟨b9, _, _, trivial, (.cons rfl .nil), (.cons rfl (.cons rfl (.cons rfl .nil))), (by repeat (first | exact Take.nil | apply Take.one (by repeat (first | exact Pick.here | apply Pick.there | apply Pick.far)) | apply Take.seg (by repeat (first | exact PickS.last | exact PickS.one | exact PickS.here | exact PickS.nil | apply PickS.there | apply PickS.far)) | exact Take.last (by repeat (first | exact PickS.last | exact PickS.one | exact PickS.here | exact PickS.nil | apply PickS.there | apply PickS.far)))), rfl⟩
          ·
            refine TU.one 3 (by decide +kernel) rfl rfl (V1.t (V1.load1 one_33 rfl (.own (cells := [.int .u64 (numP (plc r i a) : Nat), .slice sa (valP (plc r i a)).length sc]) (by repeat (first | exact Find.here | assumption | apply Find.there | apply Find.far)) (by rfl))) ?_)
            refine TU.one 4 (by decide +kernel) rfl rfl (T1.buildSl1 (os := [.tmp 57, .tmp 59]) (vs := [.slice (some ⟨ba, 0 + i * r, none⟩) 12 (a.length - i * r), .slice sa (valP (plc r i a)).length sc]) ty_22 sz_33 zr_33 (by decide) rfl (.cons rfl (.cons rfl .nil)) rfl (ones rfl) (fun b60 => ?_))
            refine TU.one 5 (by decide +kernel) rfl rfl (T1.callX (X := (⟨b60, 0, [.slice (some ⟨ba, 0 + i * r, none⟩) 12 (a.length - i * r), .slice sa (valP (plc r i a)).length sc], 2⟩ :: (⟨ba, 0, List.map byteV a, a.length⟩ : Blk) :: Ls1 : List Blk)) has_22 rfl (Sum256_any _ _ [(plc r i a).take 12, valP (plc r i a)] (⟨b60, 0, [.slice (some ⟨ba, 0 + i * r, none⟩) 12 (a.length - i * r), .slice sa (valP (plc r i a)).length sc], 2⟩ :: (⟨ba, 0, List.map byteV a, a.length⟩ : Blk) :: Ls1) (PartsR.ones (svs := [.slice (some ⟨ba, 0 + i * r, none⟩) 12 (a.length - i * r), .slice sa (valP (plc r i a)).length sc]) (size := 2) (by simp) rfl (two_parts (part_plc (size := a.length) (o := 0) (k := 12) (by simp) (by omega) (by omega) hir) (PartR.own hs1 (fun _ h => List.mem_cons_of_mem _ (List.mem_cons_of_mem _ h))))) (two_len (by rw [List.length_take]; omega) (by omega)) (show 2 < 9223372036854775807 by decide) (by simp; omega)) (by repeat (first | exact Take.nil | apply Take.one (by repeat (first | exact Pick.here | apply Pick.there | apply Pick.far)) | apply Take.seg (by repeat (first | exact PickS.last | exact PickS.one | exact PickS.here | exact PickS.nil | apply PickS.there | apply PickS.far)) | exact Take.last (by repeat (first | exact PickS.last | exact PickS.one | exact PickS.here | exact PickS.nil | apply PickS.there | apply PickS.far)))) (fun v Y hY => ?_))
            obtain ⟨rfl, hzz⟩ := hY
            rw [hzz, show ([(plc r i a).take 12, valP (plc r i a)] : List (List UInt8)).flatten = (plc r i a).take 12 ++ valP (plc r i a) from by simp]
            simp only [List.cons_append, List.nil_append, List.append_assoc]
            refine TU.one 7 (by decide +kernel) rfl rfl (T1.storeN (vs := (sha T256 ((plc r i a).take 12 ++ valP (plc r i a))).map byteV) rfl rfl sz_63 (one_bytes _) (by repeat (first | exact Sub.one | apply Sub.there | apply Sub.far)) (by rw [List.length_map, sha_len]; rfl) (by rw [List.length_map, sha_len]) ?_)
            refine TU.done (by decide +kernel) ?_
            exact ⟨b9, _, _, trivial, (.cons rfl .nil), (.cons rfl (.cons rfl (.cons rfl .nil))), (by repeat (first | exact Take.nil | apply Take.one (by repeat (first | exact Pick.here | apply Pick.there | apply Pick.far)) | apply Take.seg (by repeat (first | exact PickS.last | exact PickS.one | exact PickS.here | exact PickS.nil | apply PickS.there | apply PickS.far)) | exact Take.last (by repeat (first | exact PickS.last | exact PickS.one | exact PickS.here | exact PickS.nil | apply PickS.there | apply PickS.far)))), rfl⟩
        ·
          rintro b9 e_ L rfl
          refine T.seq ?_
          refine T.drawK (fun L_ => Find L_ ⟨b7, 0, [.int .u64 (numP (plc r i a) : Nat), .slice sa (valP (plc r i a)).length sc], 2⟩) mixed (by repeat (first | exact Find.here | assumption | apply Find.there | apply Find.far)) ?_
          refine TK.take 0 rfl (by decide +kernel) (by decide +kernel) (by decide +kernel) rfl (fun _ _ _ h => h) (fun L_ k1_ => V1.loadN (vs := [.int .u64 (numP (plc r i a) : Nat), .slice sa (valP (plc r i a)).length sc]) one_55 sz_55 rfl (RdN.whole (by repeat (first | exact Find.here | assumption | apply Find.there | apply Find.far))) (by rfl)) ?_
          refine TK.take 1 rfl (by decide +kernel) (by decide +kernel) (by decide +kernel) rfl (fun _ _ _ h => h) (fun L_ k1_ => V1.sliceA ty_63 sz_5 rfl rfl rfl (by decide) (by decide) (by decide)) ?_
          refine TK.take 2 rfl (by decide +kernel) (by decide +kernel) (by decide +kernel) rfl (fun _ _ _ h => h) (fun L_ k1_ => V1.move' (by (conv => lhs; whnf) <;> rfl)) ?_
          refine TK.take 3 rfl (by decide +kernel) (by decide +kernel) (by decide +kernel) rfl (fun _ _ _ h => h) (fun L_ k1_ => V1.sliceMid 12 32 ty_33 sz_5 rfl rfl rfl (by omega) (by omega)) ?_
          refine TK.one 4 (by decide +kernel) rfl rfl (T1.callX (X := ([⟨b9, 0, (sha T256 ((plc r i a).take 12 ++ valP (plc r i a))).map byteV, 32⟩, (⟨ba, 0, List.map byteV a, a.length⟩ : Blk)] : List Blk)) has_27 rfl (Equal_any _ (.slice (some ⟨b9, 0, none⟩) 32 32) _ (sha T256 ((plc r i a).take 12 ++ valP (plc r i a))) (((plc r i a).drop 12).take 32) [⟨b9, 0, (sha T256 ((plc r i a).take 12 ++ valP (plc r i a))).map byteV, 32⟩, (⟨ba, 0, List.map byteV a, a.length⟩ : Blk)] (part32 (size := 32) (List.mem_cons_self ..) (sha_len _ _)) (part_plc (size := a.length) (o := 12) (k := 32) (by simp) (by omega) (by omega) hir) (by rw [sha_len]; decide)) (by repeat (first | exact Take.nil | apply Take.one (by repeat (first | exact Pick.here | apply Pick.there | apply Pick.far)) | apply Take.seg (by repeat (first | exact PickS.last | exact PickS.one | exact PickS.here | exact PickS.nil | apply PickS.there | apply PickS.far)) | exact Take.last (by repeat (first | exact PickS.last | exact PickS.one | exact PickS.here | exact PickS.nil | apply PickS.there | apply PickS.far)))) (fun v Y hY => ?_))
          obtain ⟨rfl, hzz⟩ := hY
          rw [hzz]
          simp only [List.cons_append, List.nil_append]
          refine ⟨(by repeat (first | exact Find.here | assumption | apply Find.there | apply Find.far)), ?_⟩
          refine TK.one 5 (by decide +kernel) rfl rfl (T1.storeN (vs := [.int .u64 (numP (plc r i a) : Nat), .slice sa (valP (plc r i a)).length sc]) rfl rfl sz_55 (ones rfl) (by repeat (first | exact Sub.one | apply Sub.there | apply Sub.far)) (by rfl) (by rfl) ?_)
          refine ⟨(by repeat (first | exact Find.here | assumption | apply Find.there | apply Find.far)), ?_⟩
          refine TK.take 6 rfl (by decide +kernel) (by decide +kernel) (by decide +kernel) rfl (fun _ _ _ h => h) (fun L_ k1_ => V1.assign' (by (conv => lhs; whnf) <;> rfl)) ?_
          refine TD.done (by decide +kernel) ?_
          refine T.ret ?_
          exact ⟨_, Ls1 ++ ((⟨bd, 0, [.slice (some ⟨ba, 0, none⟩) a.length a.length, .int .i64 pw], 2⟩ : Blk) :: (⟨ba, 0, List.map byteV a, a.length⟩ : Blk) :: G), _, .cons (.cellN (by (conv => lhs; whnf) <;> rfl) one_55 sz_55 (RdN.whole (cells := [.int .u64 (numP (plc r i a) : Nat), .slice sa (valP (plc r i a)).length sc]) (by repeat (first | exact Find.here | assumption | apply Find.there | apply Find.far))) (by rfl)) (.cons (.tmp (by (conv => lhs; whnf) <;> rfl)) .nil), (by repeat (first | exact Take.nil | apply Take.one (by repeat (first | exact Pick.here | apply Pick.there | apply Pick.far)) | apply Take.seg (by repeat (first | exact PickS.last | exact PickS.one | exact PickS.here | exact PickS.nil | apply PickS.there | apply PickS.far)) | exact Take.last (by repeat (first | exact PickS.last | exact PickS.one | exact PickS.here | exact PickS.nil | apply PickS.there | apply PickS.far)))), Ls1 ++ [(⟨bd, 0, [.slice (some ⟨ba, 0, none⟩) a.length a.length, .int .i64 pw], 2⟩ : Blk), (⟨ba, 0, List.map byteV a, a.length⟩ : Blk)], by simp, numP (plc r i a), _, valP (plc r i a), Ls1, _, rfl, rfl, hs1, (okP_if (by rw [hbl]; omega)).symm, fun _ => ⟨rfl, rfl⟩⟩

end Go.Proofs.Ytmolpgnekcfimaa.S
