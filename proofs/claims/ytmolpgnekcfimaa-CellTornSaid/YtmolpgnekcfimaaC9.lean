/- The document's reading of a disk. -/
import Derived.Test.YtmolpgnekcfimaaC4
import Derived.Test.YtmolpgnekcfimaaC8
namespace Go.Proofs.Ytmolpgnekcfimaa.S
open Go.RowKit

open Sh
theorem be_append (l m : List UInt8) : be (l ++ m) = be l * 256 ^ m.length + be m := by
  induction l with
  | nil => simp [be]
  | cons x l ih => rw [List.cons_append, be, ih, be, List.length_append, Nat.pow_add, Nat.add_mul, Nat.mul_assoc, Nat.add_assoc]
theorem be_take_le (l : List UInt8) (k : Nat) : be (l.take k) ≤ be l := by
  have h := be_append (l.take k) (l.drop k)
  rw [List.take_append_drop] at h
  have h2 : be (l.take k) * 1 ≤ be (l.take k) * 256 ^ (l.drop k).length := Nat.mul_le_mul_left _ (Nat.pow_pos (by decide))
  omega
theorem numP_small {b : List UInt8} {x0 x1 : UInt8} (hb : 8 ≤ b.length) (h0 : b[0]? = some x0) (h1 : b[1]? = some x1) : numP b < 281474976710656 ↔ x0 = 0 ∧ x1 = 0 := by
  match b, hb, h0, h1 with
  | y0 :: y1 :: l, hb, h0, h1 =>
    obtain rfl : y0 = x0 := by simpa using h0
    obtain rfl : y1 = x1 := by simpa using h1
    have hl : (l.take 6).length = 6 := by rw [List.length_take]; simp only [List.length_cons] at hb; omega
    have hlt := be_lt (l.take 6)
    rw [hl, show (256 : Nat) ^ 6 = 281474976710656 by decide] at hlt
    unfold numP
    rw [show (y0 :: y1 :: l).take 8 = y0 :: y1 :: l.take 6 from rfl, be, be, List.length_cons, hl, show (256 : Nat) ^ (6 + 1) = 72057594037927936 by decide, show (256 : Nat) ^ 6 = 281474976710656 by decide]
    constructor
    · intro h
      exact ⟨UInt8.toNat_inj.1 (show y0.toNat = 0 by omega), UInt8.toNat_inj.1 (show y1.toNat = 0 by omega)⟩
    · rintro ⟨rfl, rfl⟩
      rw [show (0 : UInt8).toNat = 0 from rfl]; omega
theorem valP_len {b : List UInt8} (h : lenP b ≤ b.length - 44) : (valP b).length = lenP b := by
  unfold valP; rw [List.length_take, List.length_drop]; omega
theorem rec_ok {b : List UInt8} (hb : 44 ≤ b.length) (h : numP b ≠ 0 ∧ numP b < 281474976710656 ∧ lenP b ≤ b.length - 44) : decide (bstr (recB (numP b) (valP b)) = bstr (b.take (44 + lenP b))) = okP b := by
  rw [okP_if h]
  have e1 : dig (numP b) 8 = b.take 8 := by
    have := dig_be (b.take 8); rw [List.length_take, Nat.min_eq_left (by omega)] at this; exact this
  have e2 : dig (valP b).length 4 = (b.drop 8).take 4 := by
    rw [valP_len h.2.2]
    have := dig_be ((b.drop 8).take 4); rw [List.length_take, List.length_drop, Nat.min_eq_left (by omega)] at this; exact this
  have e3 : b.take 12 = b.take 8 ++ (b.drop 8).take 4 := List.take_add (l := b) (i := 8) (j := 4)
  have e4 : b.take (44 + lenP b) = b.take 12 ++ ((b.drop 12).take 32 ++ valP b) := by
    rw [show 44 + lenP b = 12 + (32 + lenP b) from by omega, List.take_add, List.take_add, List.drop_drop]; rfl
  have e5 : recB (numP b) (valP b) = b.take 12 ++ (sha T256 (b.take 12 ++ valP b) ++ valP b) := by
    unfold recB; rw [e1, e2, ← e3, List.append_assoc]
  rw [e5, e4]
  apply decide_eq_decide.2
  constructor
  · intro hh
    have := List.append_cancel_left (bstr_inj hh)
    exact List.append_cancel_right this
  · intro hh
    rw [hh]
theorem plc_first {r : Nat} {a : List UInt8} : (a.drop 0).take (r - 0) = plc r 0 a := by
  unfold plc; rw [Nat.zero_mul, Nat.sub_zero]
theorem plc_second {r : Nat} {a : List UInt8} (h : a.length = 2 * r) : (a.drop r).take (a.length - r) = plc r 1 a := by
  unfold plc; rw [Nat.one_mul, show a.length - r = r from by omega]
/-- What the document's look at a place answers. -/
def LkQ (b : List UInt8) (v : Value) : Prop := ∃ (n : Nat) (vv : List UInt8) (ok : Bool), v = .tuple #[.agg #[.int .i64 (n : Nat), .string (bstr vv)], .bool ok] ∧ ok = okP b ∧ (ok = true → n = numP b ∧ vv = valP b)
/-- What the document's opening answers. -/
def OpQ (o : Option (Nat × List UInt8)) (v : Value) : Prop :=
  match o with
  | some (n, vv) => v = .tuple #[.agg #[.int .i64 (n : Nat), .string (bstr vv)], .int .i64 0]
  | none => v = .tuple #[.agg #[.int .i64 0, .string (bstr [])], .int .i64 130]

set_option maxRecDepth 100000 in
set_option maxHeartbeats 2000000 in
theorem reflook_any (b : List UInt8) (r : Nat) (w : World) (hbr : b.length = r) (hb1 : 64 ≤ b.length) (hb2 : b.length ≤ 65536) : Fn P 24 [.string (bstr b), .int .i64 (r : Nat)] w [] (fun v Y => Y = [] ∧ LkQ b v) := by
  subst hbr
  obtain ⟨x0, hx0⟩ : ∃ z, b[0]? = some z := ⟨_, List.getElem?_eq_getElem (by omega)⟩
  obtain ⟨x1, hx1⟩ : ∃ z, b[1]? = some z := ⟨_, List.getElem?_eq_getElem (by omega)⟩
  have hlp4 : be ((b.drop 8).take 4) = lenP b := rfl
  have hlp := lenP_lt b
  refine Fn.of 70 [.cell 4 40, .tmp 5] Go.Proofs.Try.func24 rfl rfl rfl rfl ?_
  refine T.seq ?_
  refine T.region ?_
  refine TL.cons rfl (T1.allocN 2 zr_40 rfl (fun b4 => ?_))
  refine TL.cons rfl (V1.t (V1.assign' (by (conv => lhs; whnf) <;> rfl)) ?_)
  refine TL.nil ?_
  refine T.seq ?_
  refine T.region ?_
  refine TL.cons rfl (V1.t (V1.assign' (by (conv => lhs; whnf) <;> rfl)) ?_)
  refine TL.nil ?_
  refine T.seq ?_
  refine T.seq ?_
  refine T.region ?_
  refine TL.cons rfl (V1.t (V1.assign' (by (conv => lhs; whnf) <;> rfl)) ?_)
  refine TL.nil ?_
  refine T.block ?_
  refine T.loopL (σ := Nat) (l0 := [(0, _), (1, _), (4, _)]) (fun x => [(7, .int .i64 (8 + (x : Nat))), (6, .int .i64 (be (((b.drop 8).take 4).take x) : Nat))]) (fun x L => L = [⟨b4, 0, [.int .i64 0, .string (bstr [])], 2⟩] ∧ x ≤ 4) (fun x => 4 - x) 0 (.cons rfl (.cons rfl .nil)) (.cons (by (conv => lhs; whnf) <;> rfl) (.cons (by (conv => lhs; whnf) <;> rfl) (.cons (by (conv => lhs; whnf) <;> rfl) .nil))) (by repeat (first | exact Take.nil | apply Take.one (by repeat (first | exact Pick.here | apply Pick.there | apply Pick.far)) | apply Take.seg (by repeat (first | exact PickS.last | exact PickS.one | exact PickS.here | exact PickS.nil | apply PickS.there | apply PickS.far)) | exact Take.last (by repeat (first | exact PickS.last | exact PickS.one | exact PickS.here | exact PickS.nil | apply PickS.there | apply PickS.far)))) (⟨rfl, Nat.zero_le _⟩) ?_
  rintro j e_ L ⟨rfl, hj⟩
  refine T.seq ?_
  refine T.seq ?_
  refine T.region ?_
  refine TL.cons rfl (V1.t (V1.move' (by (conv => lhs; whnf) <;> rfl)) ?_)
  refine TL.cons rfl (T1.ltI_split rfl rfl (fun h3 => ?_) (fun h3 => ?_))
  ·
    try simp only at h3
    obtain ⟨x, hx⟩ : ∃ z, b[8 + j]? = some z := ⟨_, List.getElem?_eq_getElem (by omega)⟩
    have hx4 : ((b.drop 8).take 4)[j]? = some x := by rw [List.getElem?_take, if_pos (by omega), List.getElem?_drop]; exact hx
    have hbt := be_take hx4
    have hbl := be_take_le ((b.drop 8).take 4) (j + 1)
    refine TL.nil ?_
    refine T.cond_t rfl ?_
    refine T.skip ?_
    refine T.seq ?_
    refine T.block ?_
    refine T.region ?_
    refine TL.cons rfl (V1.t (V1.move' (by (conv => lhs; whnf) <;> rfl)) ?_)
    refine TL.cons rfl (V1.t (V1.mul (c := ((be (((b.drop 8).take 4).take j) * 256 : Nat) : Int)) rfl rfl (by rw [wrap_i64 _ (by omega) (by omega)]; omega)) ?_)
    refine TL.cons rfl (V1.t (V1.move' (by (conv => lhs; whnf) <;> rfl)) ?_)
    refine TL.cons rfl (V1.t (V1.move' (by (conv => lhs; whnf) <;> rfl)) ?_)
    refine TL.cons rfl (V1.t (V1.indexStr (s := bstr b) (c := x) ty_9 rfl rfl (by omega) (by rw [show (8 + (j : Int) : Int).toNat = 8 + j from by omega]; exact bstr_get hx)) ?_)
    refine TL.cons rfl (V1.t (V1.conv (c := ((x.toNat : Nat) : Int)) ty_5 ty_3 rfl (by have := x.toNat_lt; exact wrap_i64 _ (by omega) (by omega))) ?_)
    refine TL.cons rfl (V1.t (V1.add (c := ((be (((b.drop 8).take 4).take (j + 1)) : Nat) : Int)) rfl rfl (by rw [wrap_i64 _ (by omega) (by omega)]; omega)) ?_)
    refine TL.cons rfl (V1.t (V1.assign' (by (conv => lhs; whnf) <;> rfl)) ?_)
    refine TL.nil ?_
    refine T.region ?_
    refine TL.cons rfl (V1.t (V1.move' (by (conv => lhs; whnf) <;> rfl)) ?_)
    refine TL.cons rfl (V1.t (V1.add (c := 8 + ((j + 1 : Nat) : Int)) rfl rfl (by rw [wrap_i64 _ (by omega) (by omega)]; omega)) ?_)
    refine TL.cons rfl (V1.t (V1.assign' (by (conv => lhs; whnf) <;> rfl)) ?_)
    refine TL.nil ?_
    exact ⟨j + 1, _, _, (by simp only; omega), (.cons rfl (.cons rfl .nil)), (.cons rfl (.cons rfl (.cons rfl .nil))), (by repeat (first | exact Take.nil | apply Take.one (by repeat (first | exact Pick.here | apply Pick.there | apply Pick.far)) | apply Take.seg (by repeat (first | exact PickS.last | exact PickS.one | exact PickS.here | exact PickS.nil | apply PickS.there | apply PickS.far)) | exact Take.last (by repeat (first | exact PickS.last | exact PickS.one | exact PickS.here | exact PickS.nil | apply PickS.there | apply PickS.far)))), ⟨rfl, by omega⟩⟩
  ·
    try simp only at h3
    have hj4 : j = 4 := by omega
    rw [hj4, show be (((b.drop 8).take 4).take 4) = lenP b from by unfold lenP; rw [List.take_of_length_le (by rw [List.length_take]; omega)]]
    refine TL.nil ?_
    refine T.cond_f rfl ?_
    refine T.exit ?_
    refine T.seq ?_
    refine T.seq ?_
    refine T.region ?_
    refine TL.cons rfl (V1.t (V1.move' (by (conv => lhs; whnf) <;> rfl)) ?_)
    refine TL.cons rfl (V1.t (V1.move' (by (conv => lhs; whnf) <;> rfl)) ?_)
    refine TL.cons rfl (V1.t (V1.sub (c := ((b.length - 44 : Nat) : Int)) rfl rfl (by rw [wrap_i64 _ (by omega) (by omega)]; omega)) ?_)
    refine TL.cons rfl (T1.gtI_split rfl rfl (fun h6 => ?_) (fun h6 => ?_))
    ·
      have hno : okP b = false := okP_no (by omega)
      refine TL.cons rfl (V1.t (V1.move' (by (conv => lhs; whnf) <;> rfl)) ?_)
      refine TL.no rfl ?_
      refine TL.no rfl ?_
      refine TL.no rfl ?_
      refine TL.cons rfl (V1.t (V1.pick rfl (by (conv => lhs; whnf) <;> rfl)) ?_)
      refine TL.cons rfl (V1.t (V1.move' (by (conv => lhs; whnf) <;> rfl)) ?_)
      refine TL.no rfl ?_
      refine TL.no rfl ?_
      refine TL.no rfl ?_
      refine TL.cons rfl (V1.t (V1.pick rfl (by (conv => lhs; whnf) <;> rfl)) ?_)
      refine TL.nil ?_
      refine T.cond_t rfl ?_
      refine T.seq ?_
      refine T.live (l := [(4, _)]) (.cons (by (conv => lhs; whnf) <;> rfl) .nil) (fun e_ => ?_)
      refine T.region ?_
      refine TL.cons rfl (V1.t (V1.build0 pl_40 zr_40) ?_)
      refine TL.cons rfl (T1.storeN (vs := [.int .i64 0, .string (bstr [])]) rfl rfl sz_40 (ones rfl) (by repeat (first | exact Sub.one | apply Sub.there | apply Sub.far)) (by rfl) (by rfl) ?_)
      refine TL.cons rfl (V1.t (V1.assign' (by (conv => lhs; whnf) <;> rfl)) ?_)
      refine TL.nil ?_
      refine T.ret ?_
      exact ⟨_, [], _, .cons (.cellN (by (conv => lhs; whnf) <;> rfl) one_40 sz_40 (RdN.whole (cells := [.int .i64 0, .string (bstr [])]) (by repeat (first | exact Find.here | assumption | apply Find.there | apply Find.far))) (by rfl)) (.cons (.tmp (by (conv => lhs; whnf) <;> rfl)) .nil), Take.nil, rfl, 0, [], false, rfl, hno.symm, fun h => by cases h⟩
    ·
      refine TL.cons rfl (V1.t (V1.move' (by (conv => lhs; whnf) <;> rfl)) ?_)
      refine TL.cons rfl (V1.t (V1.move' (by (conv => lhs; whnf) <;> rfl)) ?_)
      refine TL.cons rfl (V1.t (V1.indexStr (s := bstr b) (c := x0) ty_9 rfl rfl (by omega) (bstr_get hx0)) ?_)
      refine TL.cons rfl (T1.neI_split rfl rfl (fun g0 => ?_) (fun g0 => ?_))
      ·
        have hno : okP b = false := okP_no (fun h => by have := (numP_small (by omega) hx0 hx1).1 h.2.1; rw [this.1] at g0; exact g0 rfl)
        refine TL.cons rfl (V1.t (V1.pick rfl (by (conv => lhs; whnf) <;> rfl)) ?_)
        refine TL.cons rfl (V1.t (V1.move' (by (conv => lhs; whnf) <;> rfl)) ?_)
        refine TL.no rfl ?_
        refine TL.no rfl ?_
        refine TL.no rfl ?_
        refine TL.cons rfl (V1.t (V1.pick rfl (by (conv => lhs; whnf) <;> rfl)) ?_)
        refine TL.nil ?_
        refine T.cond_t rfl ?_
        refine T.seq ?_
        refine T.live (l := [(4, _)]) (.cons (by (conv => lhs; whnf) <;> rfl) .nil) (fun e_ => ?_)
        refine T.region ?_
        refine TL.cons rfl (V1.t (V1.build0 pl_40 zr_40) ?_)
        refine TL.cons rfl (T1.storeN (vs := [.int .i64 0, .string (bstr [])]) rfl rfl sz_40 (ones rfl) (by repeat (first | exact Sub.one | apply Sub.there | apply Sub.far)) (by rfl) (by rfl) ?_)
        refine TL.cons rfl (V1.t (V1.assign' (by (conv => lhs; whnf) <;> rfl)) ?_)
        refine TL.nil ?_
        refine T.ret ?_
        exact ⟨_, [], _, .cons (.cellN (by (conv => lhs; whnf) <;> rfl) one_40 sz_40 (RdN.whole (cells := [.int .i64 0, .string (bstr [])]) (by repeat (first | exact Find.here | assumption | apply Find.there | apply Find.far))) (by rfl)) (.cons (.tmp (by (conv => lhs; whnf) <;> rfl)) .nil), Take.nil, rfl, 0, [], false, rfl, hno.symm, fun h => by cases h⟩
      ·
        have e0 : x0 = 0 := by apply UInt8.toNat_inj.1; show x0.toNat = 0; omega
        refine TL.cons rfl (V1.t (V1.pick rfl (by (conv => lhs; whnf) <;> rfl)) ?_)
        refine TL.cons rfl (V1.t (V1.move' (by (conv => lhs; whnf) <;> rfl)) ?_)
        refine TL.cons rfl (V1.t (V1.move' (by (conv => lhs; whnf) <;> rfl)) ?_)
        refine TL.cons rfl (V1.t (V1.indexStr (s := bstr b) (c := x1) ty_9 rfl rfl (by omega) (bstr_get hx1)) ?_)
        refine TL.cons rfl (T1.neI_split rfl rfl (fun g1 => ?_) (fun g1 => ?_))
        ·
          have hno : okP b = false := okP_no (fun h => by have := (numP_small (by omega) hx0 hx1).1 h.2.1; rw [this.2] at g1; exact g1 rfl)
          refine TL.cons rfl (V1.t (V1.pick rfl (by (conv => lhs; whnf) <;> rfl)) ?_)
          refine TL.nil ?_
          refine T.cond_t rfl ?_
          refine T.seq ?_
          refine T.live (l := [(4, _)]) (.cons (by (conv => lhs; whnf) <;> rfl) .nil) (fun e_ => ?_)
          refine T.region ?_
          refine TL.cons rfl (V1.t (V1.build0 pl_40 zr_40) ?_)
          refine TL.cons rfl (T1.storeN (vs := [.int .i64 0, .string (bstr [])]) rfl rfl sz_40 (ones rfl) (by repeat (first | exact Sub.one | apply Sub.there | apply Sub.far)) (by rfl) (by rfl) ?_)
          refine TL.cons rfl (V1.t (V1.assign' (by (conv => lhs; whnf) <;> rfl)) ?_)
          refine TL.nil ?_
          refine T.ret ?_
          exact ⟨_, [], _, .cons (.cellN (by (conv => lhs; whnf) <;> rfl) one_40 sz_40 (RdN.whole (cells := [.int .i64 0, .string (bstr [])]) (by repeat (first | exact Find.here | assumption | apply Find.there | apply Find.far))) (by rfl)) (.cons (.tmp (by (conv => lhs; whnf) <;> rfl)) .nil), Take.nil, rfl, 0, [], false, rfl, hno.symm, fun h => by cases h⟩
        ·
          have e1 : x1 = 0 := by apply UInt8.toNat_inj.1; show x1.toNat = 0; omega
          have hsm := (numP_small (by omega) hx0 hx1).2 ⟨e0, e1⟩
          refine TL.cons rfl (V1.t (V1.pick rfl (by (conv => lhs; whnf) <;> rfl)) ?_)
          refine TL.nil ?_
          refine T.cond_f rfl ?_
          refine T.skip ?_
          refine T.seq ?_
          refine T.live (l := [(0, _), (4, _), (6, _)]) (.cons (by (conv => lhs; whnf) <;> rfl) (.cons (by (conv => lhs; whnf) <;> rfl) (.cons (by (conv => lhs; whnf) <;> rfl) .nil))) (fun e_ => ?_)
          refine T.region ?_
          refine TL.cons rfl (V1.t (V1.move' (by (conv => lhs; whnf) <;> rfl)) ?_)
          refine TL.cons rfl (V1.t (V1.move' (by (conv => lhs; whnf) <;> rfl)) ?_)
          refine TL.cons rfl (V1.t (V1.add (c := ((44 + lenP b : Nat) : Int)) rfl rfl (by rw [wrap_i64 _ (by omega) (by omega)]; omega)) ?_)
          refine TL.cons rfl (V1.t (V1.sliceB 44 (44 + lenP b) ty_9 rfl rfl rfl (by omega) (by omega)) ?_)
          rw [show (b.drop 44).take (44 + lenP b - 44) = valP b from by unfold valP; congr 1; omega]
          refine TL.cons rfl (V1.t (V1.buildF pl_40 zr_40 (.one rfl (by (conv => lhs; whnf) <;> rfl) rfl .nil) (by repeat (first | exact FillL.nil | exact SetN.done | apply SetN.here | apply SetN.there | apply FillL.cons))) ?_)
          refine TL.cons rfl (T1.allocN 2 zr_40 rfl (fun b8 => ?_))
          refine TL.cons rfl (T1.storeN (vs := [.int .i64 0, .string (bstr (valP b))]) rfl rfl sz_40 (ones rfl) (by repeat (first | exact Sub.one | apply Sub.there | apply Sub.far)) (by rfl) (by rfl) ?_)
          refine TL.nil ?_
          refine T.seq ?_
          refine T.seq ?_
          refine T.region ?_
          refine TL.cons rfl (V1.t (V1.assign' (by (conv => lhs; whnf) <;> rfl)) ?_)
          refine TL.nil ?_
          refine T.block ?_
          refine T.loopL (σ := Nat) (l0 := [(0, _), (4, _), (6, _), (8, _)]) (fun x => [(9, .int .i64 (x : Nat))]) (fun x L => L = ⟨b8, 0, [.int .i64 (be ((b.take 8).take x) : Nat), .string (bstr (valP b))], 2⟩ :: ⟨b4, 0, [.int .i64 0, .string (bstr [])], 2⟩ :: [] ∧ x ≤ 8) (fun x => 8 - x) 0 (.cons rfl .nil) (.cons (by (conv => lhs; whnf) <;> rfl) (.cons (by (conv => lhs; whnf) <;> rfl) (.cons (by (conv => lhs; whnf) <;> rfl) (.cons (by (conv => lhs; whnf) <;> rfl) .nil)))) (by repeat (first | exact Take.nil | apply Take.one (by repeat (first | exact Pick.here | apply Pick.there | apply Pick.far)) | apply Take.seg (by repeat (first | exact PickS.last | exact PickS.one | exact PickS.here | exact PickS.nil | apply PickS.there | apply PickS.far)) | exact Take.last (by repeat (first | exact PickS.last | exact PickS.one | exact PickS.here | exact PickS.nil | apply PickS.there | apply PickS.far)))) (⟨rfl, Nat.zero_le _⟩) ?_
          rintro c e_ L ⟨rfl, hc⟩
          refine T.seq ?_
          refine T.seq ?_
          refine T.region ?_
          refine TL.cons rfl (V1.t (V1.move' (by (conv => lhs; whnf) <;> rfl)) ?_)
          refine TL.cons rfl (T1.ltI_split rfl rfl (fun h10 => ?_) (fun h10 => ?_))
          rotate_left
          rcases Nat.eq_zero_or_pos (numP b) with hz | hz
          rotate_left 2
          ·
            try simp only at h10
            obtain ⟨x, hx⟩ : ∃ z, b[c]? = some z := ⟨_, List.getElem?_eq_getElem (by omega)⟩
            have hx8 : (b.take 8)[c]? = some x := by rw [List.getElem?_take, if_pos (by omega)]; exact hx
            have hbt := be_take hx8
            have hbl : be ((b.take 8).take (c + 1)) ≤ numP b := be_take_le (b.take 8) (c + 1)
            refine TL.nil ?_
            refine T.cond_t rfl ?_
            refine T.skip ?_
            refine T.seq ?_
            refine T.block ?_
            refine T.drawTail 9 mixed (by decide +kernel) (by rfl) (by decide +kernel) rfl ?_
            refine Det.cons 0 (ins := [(8, _)]) (.old (by (conv => lhs; whnf) <;> rfl) (by decide +kernel) .nil) (fun e_ => .inl ⟨rfl, V1.t (V1.fieldAddr fl_40_0 rfl) ⟨rfl, rfl⟩⟩) ?_
            refine Det.cons 1 (ins := [(45, _)]) (.new 0 0 (by decide +kernel) rfl rfl .nil) (fun e_ => .inl ⟨rfl, V1.t (V1.load1 one_3 rfl (.own (cells := [.int .i64 (be ((b.take 8).take c) : Nat), .string (bstr (valP b))]) (by repeat (first | exact Find.here | assumption | apply Find.there | apply Find.far)) (by rfl))) ⟨rfl, rfl⟩⟩) ?_
            refine Det.cons 2 (ins := [(46, _)]) (.new 1 0 (by decide +kernel) rfl rfl .nil) (fun e_ => .inl ⟨rfl, V1.t (V1.mul (c := ((be ((b.take 8).take c) * 256 : Nat) : Int)) rfl rfl (by rw [wrap_i64 _ (by omega) (by omega)]; omega)) ⟨rfl, rfl⟩⟩) ?_
            refine Det.cons 3 (ins := [(0, _)]) (.old (by (conv => lhs; whnf) <;> rfl) (by decide +kernel) .nil) (fun e_ => .inl ⟨rfl, V1.t (V1.move' (by (conv => lhs; whnf) <;> rfl)) ⟨rfl, rfl⟩⟩) ?_
            refine Det.cons 4 (ins := [(9, _)]) (.old (by (conv => lhs; whnf) <;> rfl) (by decide +kernel) .nil) (fun e_ => .inl ⟨rfl, V1.t (V1.move' (by (conv => lhs; whnf) <;> rfl)) ⟨rfl, rfl⟩⟩) ?_
            refine Det.cons 5 (ins := [(48, _), (49, _)]) (.new 3 1 (by decide +kernel) rfl rfl (.new 4 0 (by decide +kernel) rfl rfl .nil)) (fun e_ => .inl ⟨rfl, V1.t (V1.indexStr (s := bstr b) (c := x) ty_9 rfl rfl (by omega) (by rw [show ((c : Int) : Int).toNat = c from by omega]; exact bstr_get hx)) ⟨rfl, rfl⟩⟩) ?_
            refine Det.cons 6 (ins := [(50, _)]) (.new 5 0 (by decide +kernel) rfl rfl .nil) (fun e_ => .inl ⟨rfl, V1.t (V1.conv (c := ((x.toNat : Nat) : Int)) ty_5 ty_3 rfl (by have := x.toNat_lt; exact wrap_i64 _ (by omega) (by omega))) ⟨rfl, rfl⟩⟩) ?_
            refine Det.cons 7 (ins := [(47, _), (51, _)]) (.new 2 4 (by decide +kernel) rfl rfl (.new 6 0 (by decide +kernel) rfl rfl .nil)) (fun e_ => .inl ⟨rfl, V1.t (V1.add (c := ((be ((b.take 8).take (c + 1)) : Nat) : Int)) rfl rfl (by rw [wrap_i64 _ (by omega) (by omega)]; omega)) ⟨rfl, rfl⟩⟩) ?_
            refine Det.cons 8 (ins := [(8, _)]) (.old (by (conv => lhs; whnf) <;> rfl) (by decide +kernel) .nil) (fun e_ => .inl ⟨rfl, V1.t (V1.fieldAddr fl_40_0 rfl) ⟨rfl, rfl⟩⟩) ?_
            refine Det.nil 9 (l := [(0, _), (4, _), (6, _), (8, _), (9, _), (52, _), (53, _)]) (.old (by (conv => lhs; whnf) <;> rfl) (by decide +kernel) (.old (by (conv => lhs; whnf) <;> rfl) (by decide +kernel) (.old (by (conv => lhs; whnf) <;> rfl) (by decide +kernel) (.old (by (conv => lhs; whnf) <;> rfl) (by decide +kernel) (.old (by (conv => lhs; whnf) <;> rfl) (by decide +kernel) (.new 7 1 (by decide +kernel) rfl rfl (.new 8 0 (by decide +kernel) rfl rfl .nil))))))) (fun e_ => ?_)
            refine (show TU _ _ _ 1 _ _ _ from ?_)
            refine TU.one 9 (by decide +kernel) rfl rfl (T1.store1 (cells := [.int .i64 (be ((b.take 8).take c) : Nat), .string (bstr (valP b))]) (cells' := [.int .i64 (be ((b.take 8).take (c + 1)) : Nat), .string (bstr (valP b))]) (v := .int .i64 (be ((b.take 8).take (c + 1)) : Nat)) rfl rfl sz_3 rfl (by repeat (first | exact Sub.one | apply Sub.there | apply Sub.far)) (Nat.zero_le _) (by repeat (first | exact SetAt.here | apply SetAt.there)) ?_)
            refine TU.done (by decide +kernel) ?_
            refine T.region ?_
            refine TL.cons rfl (V1.t (V1.move' (by (conv => lhs; whnf) <;> rfl)) ?_)
            refine TL.cons rfl (V1.t (V1.add rfl rfl (wrap_i64 _ (by omega) (by omega))) ?_)
            refine TL.cons rfl (V1.t (V1.assign' (by (conv => lhs; whnf) <;> rfl)) ?_)
            refine TL.nil ?_
            exact ⟨c + 1, _, _, (by simp only; omega), (.cons rfl .nil), (.cons rfl (.cons rfl (.cons rfl (.cons rfl .nil)))), (by repeat (first | exact Take.nil | apply Take.one (by repeat (first | exact Pick.here | apply Pick.there | apply Pick.far)) | apply Take.seg (by repeat (first | exact PickS.last | exact PickS.one | exact PickS.here | exact PickS.nil | apply PickS.there | apply PickS.far)) | exact Take.last (by repeat (first | exact PickS.last | exact PickS.one | exact PickS.here | exact PickS.nil | apply PickS.there | apply PickS.far)))), ⟨rfl, by omega⟩⟩
          ·
            try simp only at h10
            have hc8 : c = 8 := by omega
            rw [hc8, show be ((b.take 8).take 8) = numP b from by unfold numP; rw [List.take_take, Nat.min_self]]
            refine TL.nil ?_
            refine T.cond_f rfl ?_
            refine T.exit ?_
            refine T.seq ?_
            refine T.drawK (fun L_ => Find L_ ⟨b8, 0, [.int .i64 (numP b : Nat), .string (bstr (valP b))], 2⟩) mixed (by repeat (first | exact Find.here | assumption | apply Find.there | apply Find.far)) ?_
            refine TK.take 0 rfl (by decide +kernel) (by decide +kernel) (by decide +kernel) rfl (fun _ _ _ h => h) (fun L_ k1_ => V1.loadN (vs := [.int .i64 (numP b : Nat), .string (bstr (valP b))]) one_40 sz_40 rfl (RdN.whole (by repeat (first | exact Find.here | assumption | apply Find.there | apply Find.far))) (by rfl)) ?_
            refine TK.take 1 rfl (by decide +kernel) (by decide +kernel) (by decide +kernel) rfl (fun _ _ _ h => h) (fun L_ k1_ => V1.fieldAddr fl_40_0 rfl) ?_
            refine TK.take 2 rfl (by decide +kernel) (by decide +kernel) (by decide +kernel) rfl (fun _ _ _ h => h) (fun L_ k1_ => V1.load1 one_3 rfl (.own (cells := [.int .i64 (numP b : Nat), .string (bstr (valP b))]) (by repeat (first | exact Find.here | assumption | apply Find.there | apply Find.far)) (by rfl))) ?_
            refine TK.take 3 rfl (by decide +kernel) (by decide +kernel) (by decide +kernel) rfl (fun _ _ _ h => h) (fun L_ k1_ => V1.gtI rfl rfl (decide_eq_false (by omega))) ?_
            refine TK.take 4 rfl (by decide +kernel) (by decide +kernel) (by decide +kernel) rfl (fun _ _ _ h => h) (fun L_ k1_ => V1.move' (by (conv => lhs; whnf) <;> rfl)) ?_
            refine TD.takeNo (i := 5) rfl (by decide +kernel) (by decide +kernel) (by decide +kernel) rfl (fun _ _ _ h => h) ?_
            refine TD.takeNo (i := 6) rfl (by decide +kernel) (by decide +kernel) (by decide +kernel) rfl (fun _ _ _ h => h) ?_
            refine TD.takeNo (i := 7) rfl (by decide +kernel) (by decide +kernel) (by decide +kernel) rfl (fun _ _ _ h => h) ?_
            refine TD.takeNo (i := 8) rfl (by decide +kernel) (by decide +kernel) (by decide +kernel) rfl (fun _ _ _ h => h) ?_
            refine TD.takeNo (i := 10) rfl (by decide +kernel) (by decide +kernel) (by decide +kernel) rfl (fun _ _ _ h => h) ?_
            refine TD.takeNo (i := 11) rfl (by decide +kernel) (by decide +kernel) (by decide +kernel) rfl (fun _ _ _ h => h) ?_
            refine TD.takeNo (i := 12) rfl (by decide +kernel) (by decide +kernel) (by decide +kernel) rfl (fun _ _ _ h => h) ?_
            refine TD.takeNo (i := 13) rfl (by decide +kernel) (by decide +kernel) (by decide +kernel) rfl (fun _ _ _ h => h) ?_
            refine TD.takeNo (i := 9) rfl (by decide +kernel) (by decide +kernel) (by decide +kernel) rfl (fun _ _ _ h => h) ?_
            refine TD.takeNo (i := 14) rfl (by decide +kernel) (by decide +kernel) (by decide +kernel) rfl (fun _ _ _ h => h) ?_
            refine TK.take 15 rfl (by decide +kernel) (by decide +kernel) (by decide +kernel) rfl (fun _ _ _ h => h) (fun L_ k1_ => V1.pick rfl (by (conv => lhs; whnf) <;> rfl)) ?_
            refine TK.one 16 (by decide +kernel) rfl rfl (T1.storeN (vs := [.int .i64 (numP b : Nat), .string (bstr (valP b))]) rfl rfl sz_40 (ones rfl) (by repeat (first | exact Sub.one | apply Sub.there | apply Sub.far)) (by rfl) (by rfl) ?_)
            refine ⟨(by repeat (first | exact Find.here | assumption | apply Find.there | apply Find.far)), ?_⟩
            refine TK.take 17 rfl (by decide +kernel) (by decide +kernel) (by decide +kernel) rfl (fun _ _ _ h => h) (fun L_ k1_ => V1.assign' (by (conv => lhs; whnf) <;> rfl)) ?_
            refine TD.done (by decide +kernel) ?_
            refine T.ret ?_
            exact ⟨_, [], _, .cons (.cellN (by (conv => lhs; whnf) <;> rfl) one_40 sz_40 (RdN.whole (cells := [.int .i64 (numP b : Nat), .string (bstr (valP b))]) (by repeat (first | exact Find.here | assumption | apply Find.there | apply Find.far))) (by rfl)) (.cons (.tmp (by (conv => lhs; whnf) <;> rfl)) .nil), Take.nil, rfl, _, _, false, rfl, (okP_no (by omega)).symm, fun h => by cases h⟩
          ·
            try simp only at h10
            have hc8 : c = 8 := by omega
            rw [hc8, show be ((b.take 8).take 8) = numP b from by unfold numP; rw [List.take_take, Nat.min_self]]
            have hro := rec_ok (b := b) (by omega) ⟨by omega, hsm, by omega⟩
            refine TL.nil ?_
            refine T.cond_f rfl ?_
            refine T.exit ?_
            refine T.seq ?_
            refine T.drawK (fun L_ => Find L_ ⟨b8, 0, [.int .i64 (numP b : Nat), .string (bstr (valP b))], 2⟩) mixed (by repeat (first | exact Find.here | assumption | apply Find.there | apply Find.far)) ?_
            refine TK.take 0 rfl (by decide +kernel) (by decide +kernel) (by decide +kernel) rfl (fun _ _ _ h => h) (fun L_ k1_ => V1.loadN (vs := [.int .i64 (numP b : Nat), .string (bstr (valP b))]) one_40 sz_40 rfl (RdN.whole (by repeat (first | exact Find.here | assumption | apply Find.there | apply Find.far))) (by rfl)) ?_
            refine TK.take 1 rfl (by decide +kernel) (by decide +kernel) (by decide +kernel) rfl (fun _ _ _ h => h) (fun L_ k1_ => V1.fieldAddr fl_40_0 rfl) ?_
            refine TK.take 2 rfl (by decide +kernel) (by decide +kernel) (by decide +kernel) rfl (fun _ _ _ h => h) (fun L_ k1_ => V1.load1 one_3 rfl (.own (cells := [.int .i64 (numP b : Nat), .string (bstr (valP b))]) (by repeat (first | exact Find.here | assumption | apply Find.there | apply Find.far)) (by rfl))) ?_
            refine TK.take 3 rfl (by decide +kernel) (by decide +kernel) (by decide +kernel) rfl (fun _ _ _ h => h) (fun L_ k1_ => V1.gtI rfl rfl (decide_eq_true (by omega))) ?_
            refine TK.take 4 rfl (by decide +kernel) (by decide +kernel) (by decide +kernel) rfl (fun _ _ _ h => h) (fun L_ k1_ => V1.move' (by (conv => lhs; whnf) <;> rfl)) ?_
            refine TK.take 5 rfl (by decide +kernel) (by decide +kernel) (by decide +kernel) rfl (fun _ _ _ h => h) (fun L_ k1_ => V1.fieldAddr fl_40_0 rfl) ?_
            refine TK.take 6 rfl (by decide +kernel) (by decide +kernel) (by decide +kernel) rfl (fun _ _ _ h => h) (fun L_ k1_ => V1.load1 one_3 rfl (.own (cells := [.int .i64 (numP b : Nat), .string (bstr (valP b))]) (by repeat (first | exact Find.here | assumption | apply Find.there | apply Find.far)) (by rfl))) ?_
            refine TK.take 7 rfl (by decide +kernel) (by decide +kernel) (by decide +kernel) rfl (fun _ _ _ h => h) (fun L_ k1_ => V1.fieldAddr fl_40_1 rfl) ?_
            refine TK.take 8 rfl (by decide +kernel) (by decide +kernel) (by decide +kernel) rfl (fun _ _ _ h => h) (fun L_ k1_ => V1.load1 one_9 rfl (.own (cells := [.int .i64 (numP b : Nat), .string (bstr (valP b))]) (by repeat (first | exact Find.here | assumption | apply Find.there | apply Find.far)) (by rfl))) ?_
            refine TK.take 10 rfl (by decide +kernel) (by decide +kernel) (by decide +kernel) rfl (fun _ _ _ h => h) (fun L_ k1_ => V1.move' (by (conv => lhs; whnf) <;> rfl)) ?_
            refine TK.take 11 rfl (by decide +kernel) (by decide +kernel) (by decide +kernel) rfl (fun _ _ _ h => h) (fun L_ k1_ => V1.move' (by (conv => lhs; whnf) <;> rfl)) ?_
            refine TK.take 12 rfl (by decide +kernel) (by decide +kernel) (by decide +kernel) rfl (fun _ _ _ h => h) (fun L_ k1_ => V1.add (c := ((44 + lenP b : Nat) : Int)) rfl rfl (by rw [wrap_i64 _ (by omega) (by omega)]; omega)) ?_
            refine TK.take 13 rfl (by decide +kernel) (by decide +kernel) (by decide +kernel) rfl (fun _ _ _ h => h) (fun L_ k1_ => V1.sliceB 0 (44 + lenP b) ty_9 rfl rfl rfl (by omega) (by omega)) ?_
            refine TK.one 9 (by decide +kernel) rfl rfl (T1.call0 has_31 rfl (fun w hs => refRecord_any (numP b) (valP b) w (by omega) (by rw [valP_len (by omega)]; omega)) (fun v_ hv => ?_))
            obtain rfl := hv
            refine ⟨(by repeat (first | exact Find.here | assumption | apply Find.there | apply Find.far)), ?_⟩
            refine TK.take 14 rfl (by decide +kernel) (by decide +kernel) (by decide +kernel) rfl (fun _ _ _ h => h) (fun L_ k1_ => V1.eqS (r := okP b) rfl rfl hro) ?_
            refine TK.take 15 rfl (by decide +kernel) (by decide +kernel) (by decide +kernel) rfl (fun _ _ _ h => h) (fun L_ k1_ => V1.pick rfl (by (conv => lhs; whnf) <;> rfl)) ?_
            refine TK.one 16 (by decide +kernel) rfl rfl (T1.storeN (vs := [.int .i64 (numP b : Nat), .string (bstr (valP b))]) rfl rfl sz_40 (ones rfl) (by repeat (first | exact Sub.one | apply Sub.there | apply Sub.far)) (by rfl) (by rfl) ?_)
            refine ⟨(by repeat (first | exact Find.here | assumption | apply Find.there | apply Find.far)), ?_⟩
            refine TK.take 17 rfl (by decide +kernel) (by decide +kernel) (by decide +kernel) rfl (fun _ _ _ h => h) (fun L_ k1_ => V1.assign' (by (conv => lhs; whnf) <;> rfl)) ?_
            refine TD.done (by decide +kernel) ?_
            refine T.ret ?_
            exact ⟨_, [], _, .cons (.cellN (by (conv => lhs; whnf) <;> rfl) one_40 sz_40 (RdN.whole (cells := [.int .i64 (numP b : Nat), .string (bstr (valP b))]) (by repeat (first | exact Find.here | assumption | apply Find.there | apply Find.far))) (by rfl)) (.cons (.tmp (by (conv => lhs; whnf) <;> rfl)) .nil), Take.nil, rfl, numP b, valP b, okP b, rfl, rfl, fun _ => ⟨rfl, rfl⟩⟩

set_option maxRecDepth 100000 in
theorem refnoughts_any (b : List UInt8) (w : World) (hb2 : b.length ≤ 65536) : Fn P 25 [.string (bstr b)] w [] (fun v Y => Y = [] ∧ v = .bool (decide (∀ y ∈ b, y = 0))) := by
  refine Fn.of 14 [.tmp 2] Go.Proofs.Try.func25 rfl rfl rfl rfl ?_
  refine T.seq ?_
  refine T.region ?_
  refine TL.cons rfl (V1.t (V1.assign' (by (conv => lhs; whnf) <;> rfl)) ?_)
  refine TL.nil ?_
  refine T.seq ?_
  refine T.seq ?_
  refine T.region ?_
  refine TL.cons rfl (V1.t (V1.assign' (by (conv => lhs; whnf) <;> rfl)) ?_)
  refine TL.nil ?_
  refine T.block ?_
  refine T.loopL (σ := Nat) (l0 := [(0, _)]) (fun x => [(3, .int .i64 (x : Nat))]) (fun k L => L = [] ∧ k ≤ b.length ∧ (∀ y ∈ b.take k, y = 0)) (fun x => b.length - x) 0 (.cons rfl .nil) (.cons (by (conv => lhs; whnf) <;> rfl) .nil) Take.nil (⟨rfl, Nat.zero_le _, by simp⟩) ?_
  rintro j e_ L ⟨rfl, hk, hz⟩
  refine T.seq ?_
  refine T.seq ?_
  refine T.region ?_
  refine TL.cons rfl (V1.t (V1.move' (by (conv => lhs; whnf) <;> rfl)) ?_)
  refine TL.cons rfl (V1.t (V1.move' (by (conv => lhs; whnf) <;> rfl)) ?_)
  refine TL.cons rfl (V1.t (V1.lenS ty_9 rfl) ?_)
  refine TL.cons rfl (T1.ltI_split rfl rfl (fun h2 => ?_) (fun h2 => ?_))
  ·
    try simp only [bstr_size] at h2
    obtain ⟨x, hx⟩ : ∃ z, b[j]? = some z := ⟨_, List.getElem?_eq_getElem (by omega)⟩
    refine TL.nil ?_
    refine T.cond_t rfl ?_
    refine T.skip ?_
    refine T.seq ?_
    refine T.block ?_
    refine T.seq ?_
    refine T.region ?_
    refine TL.cons rfl (V1.t (V1.move' (by (conv => lhs; whnf) <;> rfl)) ?_)
    refine TL.cons rfl (V1.t (V1.move' (by (conv => lhs; whnf) <;> rfl)) ?_)
    refine TL.cons rfl (V1.t (V1.indexStr (s := bstr b) (c := x) ty_9 rfl rfl (by omega) (by rw [show ((j : Int) : Int).toNat = j from by omega]; exact bstr_get hx)) ?_)
    refine TL.cons rfl (T1.neI_split rfl rfl (fun h4 => ?_) (fun h4 => ?_))
    ·
      refine TL.nil ?_
      refine T.cond_t rfl ?_
      refine T.seq ?_
      refine T.region ?_
      refine TL.cons rfl (V1.t (V1.assign' (by (conv => lhs; whnf) <;> rfl)) ?_)
      refine TL.nil ?_
      refine T.ret ?_
      exact ⟨_, [], _, .cons (.tmp (by (conv => lhs; whnf) <;> rfl)) .nil, Take.nil, rfl, congrArg Value.bool (decide_eq_false (fun h => h4 (by rw [h x (List.mem_of_getElem? hx)]; rfl))).symm⟩
    ·
      have hx00 : x = 0 := by apply UInt8.toNat_inj.1; show x.toNat = 0; omega
      refine TL.nil ?_
      refine T.cond_f rfl ?_
      refine T.skip ?_
      refine T.region ?_
      refine TL.cons rfl (V1.t (V1.move' (by (conv => lhs; whnf) <;> rfl)) ?_)
      refine TL.cons rfl (V1.t (V1.add rfl rfl (wrap_i64 _ (by omega) (by omega))) ?_)
      refine TL.cons rfl (V1.t (V1.assign' (by (conv => lhs; whnf) <;> rfl)) ?_)
      refine TL.nil ?_
      exact ⟨j + 1, _, _, (by simp only; omega), (.cons rfl .nil), (.cons rfl .nil), Take.nil, ⟨rfl, by omega, (all_take hx).2 ⟨hz, hx00⟩⟩⟩
  ·
    try simp only [bstr_size] at h2
    have hall : ∀ y ∈ b, y = 0 := by rw [show j = b.length from by omega, List.take_length] at hz; exact hz
    refine TL.nil ?_
    refine T.cond_f rfl ?_
    refine T.exit ?_
    refine T.seq ?_
    refine T.region ?_
    refine TL.cons rfl (V1.t (V1.assign' (by (conv => lhs; whnf) <;> rfl)) ?_)
    refine TL.nil ?_
    refine T.ret ?_
    exact ⟨_, [], _, .cons (.tmp (by (conv => lhs; whnf) <;> rfl)) .nil, Take.nil, rfl, congrArg Value.bool (decide_eq_true hall).symm⟩

set_option maxRecDepth 100000 in
set_option maxHeartbeats 4000000 in
theorem refOpen_any (r : Nat) (a : List UInt8) (pw : Int) (w : World) (ha : a.length = 2 * r) (hr1 : 64 ≤ r) (hr2 : r ≤ 65536) : Fn P 15 [.agg #[.string (bstr a), .int .i64 pw]] w [] (fun v Y => Y = [] ∧ OpQ (openP (plc r 0 a) (plc r 1 a)) v) := by
  have hpl0 : (plc r 0 a).length = r := plc_len (by omega)
  have hpl1 : (plc r 1 a).length = r := plc_len (by omega)
  have hal : (bstr a).size = a.length := rfl
  refine Fn.of 68 [.cell 2 40, .tmp 3] Go.Proofs.Try.func15 rfl rfl rfl rfl ?_
  refine T.seq ?_
  refine T.region ?_
  refine TL.cons rfl (T1.boxN (vs := [.string (bstr a), .int .i64 pw]) 2 rfl rfl (fun b1 => ?_))
  refine TL.cons rfl (T1.allocN 2 zr_40 rfl (fun b2 => ?_))
  refine TL.cons rfl (V1.t (V1.assign' (by (conv => lhs; whnf) <;> rfl)) ?_)
  refine TL.nil ?_
  refine T.seq ?_
  refine T.region ?_
  refine TL.cons rfl (V1.t (V1.fieldAddr fl_44_0 rfl) ?_)
  refine TL.cons rfl (V1.t (V1.load1 one_9 rfl (.own (cells := [.string (bstr a), .int .i64 pw]) (by repeat (first | exact Find.here | assumption | apply Find.there | apply Find.far)) (by rfl))) ?_)
  refine TL.cons rfl (V1.t (V1.lenS ty_9 rfl) ?_)
  refine TL.cons rfl (V1.t (V1.quo (c := (r : Int)) rfl rfl (by decide) (by rw [show ((((bstr a).size : Nat) : Int).tdiv 2) = ((a.length / 2 : Nat) : Int) from (Int.ofNat_tdiv _ 2).symm, show a.length / 2 = r from by omega]; exact wrap_i64 _ (by omega) (by omega))) ?_)
  refine TL.cons rfl (V1.t (V1.assign' (by (conv => lhs; whnf) <;> rfl)) ?_)
  refine TL.nil ?_
  refine T.seq ?_
  refine T.region ?_
  refine TL.cons rfl (V1.t (V1.fieldAddr fl_44_0 rfl) ?_)
  refine TL.cons rfl (V1.t (V1.load1 one_9 rfl (.own (cells := [.string (bstr a), .int .i64 pw]) (by repeat (first | exact Find.here | assumption | apply Find.there | apply Find.far)) (by rfl))) ?_)
  refine TL.cons rfl (V1.t (V1.move' (by (conv => lhs; whnf) <;> rfl)) ?_)
  refine TL.cons rfl (V1.t (V1.sliceB 0 r ty_9 rfl rfl rfl (by omega) (by omega)) ?_)
  rw [plc_first]
  refine TL.cons rfl (V1.t (V1.move' (by (conv => lhs; whnf) <;> rfl)) ?_)
  refine TL.cons rfl (T1.call0 has_24 rfl (fun w hs => reflook_any (plc r 0 a) r w hpl0 (by omega) (by omega)) (fun v_ hv => ?_))
  obtain ⟨n0, vv0, ok0, rfl, hok0, hv0⟩ := hv
  rcases (show ok0 = false ∨ (ok0 = true ∧ n0 % 2 = 0) ∨ (ok0 = true ∧ n0 % 2 ≠ 0) by cases ok0 with | false => exact .inl rfl | true => rcases Decidable.em (n0 % 2 = 0) with h | h; exact .inr (.inl ⟨rfl, h⟩); exact .inr (.inr ⟨rfl, h⟩)) with rfl | ⟨rfl, hp0⟩ | ⟨rfl, hp0⟩
  ·
    have hx0 : ¬ (okP (plc r 0 a) = true ∧ numP (plc r 0 a) % 2 = 0) := by rw [← hok0]; exact fun h => by cases h.1
    refine TL.cons rfl (V1.t (V1.move' (by (conv => lhs; whnf) <;> rfl)) ?_)
    refine TL.cons rfl (V1.t (V1.extract rfl (by rfl)) ?_)
    refine TL.cons rfl (V1.t (V1.extract rfl (by rfl)) ?_)
    refine TL.cons rfl (T1.allocN 2 zr_40 rfl (fun b5 => ?_))
    refine TL.cons rfl (T1.storeN (vs := [.int .i64 (n0 : Nat), .string (bstr (vv0))]) rfl rfl sz_40 (ones rfl) (by repeat (first | exact Sub.one | apply Sub.there | apply Sub.far)) (by rfl) (by rfl) ?_)
    refine TL.cons rfl (V1.t (V1.assign' rfl) ?_)
    refine TL.nil ?_
    refine T.seq ?_
    refine T.live (l := [(1, _), (2, _), (4, _), (5, _), (6, _)]) (.cons (by (conv => lhs; whnf) <;> rfl) (.cons (by (conv => lhs; whnf) <;> rfl) (.cons (by (conv => lhs; whnf) <;> rfl) (.cons (by (conv => lhs; whnf) <;> rfl) (.cons (by (conv => lhs; whnf) <;> rfl) .nil))))) (fun e_ => ?_)
    refine T.region ?_
    refine TL.cons rfl (V1.t (V1.fieldAddr fl_44_0 rfl) ?_)
    refine TL.cons rfl (V1.t (V1.load1 one_9 rfl (.own (cells := [.string (bstr a), .int .i64 pw]) (by repeat (first | exact Find.here | assumption | apply Find.there | apply Find.far)) (by rfl))) ?_)
    refine TL.cons rfl (V1.t (V1.move' (by (conv => lhs; whnf) <;> rfl)) ?_)
    refine TL.cons rfl (V1.t (V1.sliceB r a.length ty_9 rfl rfl rfl (by omega) (Nat.le_refl _)) ?_)
    rw [plc_second ha]
    refine TL.cons rfl (V1.t (V1.move' (by (conv => lhs; whnf) <;> rfl)) ?_)
    refine TL.cons rfl (T1.call0 has_24 rfl (fun w hs => reflook_any (plc r 1 a) r w hpl1 (by omega) (by omega)) (fun v_ hv => ?_))
    obtain ⟨n1, vv1, ok1, rfl, hok1, hv1⟩ := hv
    rcases (show ok1 = false ∨ (ok1 = true ∧ n1 % 2 = 1) ∨ (ok1 = true ∧ n1 % 2 ≠ 1) by cases ok1 with | false => exact .inl rfl | true => rcases Decidable.em (n1 % 2 = 1) with h | h; exact .inr (.inl ⟨rfl, h⟩); exact .inr (.inr ⟨rfl, h⟩)) with rfl | ⟨rfl, hp1⟩ | ⟨rfl, hp1⟩
    ·
      have hx1 : ¬ (okP (plc r 1 a) = true ∧ numP (plc r 1 a) % 2 = 1) := by rw [← hok1]; exact fun h => by cases h.1
      refine TL.cons rfl (V1.t (V1.move' (by (conv => lhs; whnf) <;> rfl)) ?_)
      refine TL.cons rfl (V1.t (V1.extract rfl (by rfl)) ?_)
      refine TL.cons rfl (V1.t (V1.extract rfl (by rfl)) ?_)
      refine TL.cons rfl (T1.allocN 2 zr_40 rfl (fun b7 => ?_))
      refine TL.cons rfl (T1.storeN (vs := [.int .i64 (n1 : Nat), .string (bstr (vv1))]) rfl rfl sz_40 (ones rfl) (by repeat (first | exact Sub.one | apply Sub.there | apply Sub.far)) (by rfl) (by rfl) ?_)
      refine TL.cons rfl (V1.t (V1.assign' rfl) ?_)
      refine TL.nil ?_
      refine T.seq ?_
      refine T.region ?_
      refine TL.cons rfl (V1.t (V1.move' (by (conv => lhs; whnf) <;> rfl)) ?_)
      refine TL.cons rfl (V1.t (V1.move' (by (conv => lhs; whnf) <;> rfl)) ?_)
      refine TL.no rfl ?_
      refine TL.no rfl ?_
      refine TL.no rfl ?_
      refine TL.no rfl ?_
      refine TL.cons rfl (V1.t (V1.pick rfl (by (conv => lhs; whnf) <;> rfl)) ?_)
      refine TL.cons rfl (V1.t (V1.assign' (by (conv => lhs; whnf) <;> rfl)) ?_)
      refine TL.nil ?_
      refine T.seq ?_
      refine T.live (l := [(1, _), (2, _), (4, _), (5, _), (6, _), (7, _), (8, _)]) (.cons (by (conv => lhs; whnf) <;> rfl) (.cons (by (conv => lhs; whnf) <;> rfl) (.cons (by (conv => lhs; whnf) <;> rfl) (.cons (by (conv => lhs; whnf) <;> rfl) (.cons (by (conv => lhs; whnf) <;> rfl) (.cons (by (conv => lhs; whnf) <;> rfl) (.cons (by (conv => lhs; whnf) <;> rfl) .nil))))))) (fun e_ => ?_)
      refine T.region ?_
      refine TL.cons rfl (V1.t (V1.move' (by (conv => lhs; whnf) <;> rfl)) ?_)
      refine TL.cons rfl (V1.t (V1.move' (by (conv => lhs; whnf) <;> rfl)) ?_)
      refine TL.no rfl ?_
      refine TL.no rfl ?_
      refine TL.no rfl ?_
      refine TL.no rfl ?_
      refine TL.cons rfl (V1.t (V1.pick rfl (by (conv => lhs; whnf) <;> rfl)) ?_)
      refine TL.cons rfl (V1.t (V1.assign' (by (conv => lhs; whnf) <;> rfl)) ?_)
      refine TL.nil ?_
      refine T.seq ?_
      refine T.seq ?_
      refine T.region ?_
      refine TL.cons rfl (V1.t (V1.move' (by (conv => lhs; whnf) <;> rfl)) ?_)
      refine TL.cons rfl (V1.t (V1.move' (by (conv => lhs; whnf) <;> rfl)) ?_)
      refine TL.no rfl ?_
      refine TL.no rfl ?_
      refine TL.no rfl ?_
      refine TL.no rfl ?_
      refine TL.no rfl ?_
      refine TL.no rfl ?_
      refine TL.no rfl ?_
      refine TL.no rfl ?_
      refine TL.no rfl ?_
      refine TL.cons rfl (V1.t (V1.pick rfl (by (conv => lhs; whnf) <;> rfl)) ?_)
      refine TL.nil ?_
      refine T.cond_f rfl ?_
      refine T.skip ?_
      refine T.seq ?_
      refine T.seq ?_
      refine T.live (l := [(1, _), (2, _), (4, _), (7, _), (8, _)]) (.cons (by (conv => lhs; whnf) <;> rfl) (.cons (by (conv => lhs; whnf) <;> rfl) (.cons (by (conv => lhs; whnf) <;> rfl) (.cons (by (conv => lhs; whnf) <;> rfl) (.cons (by (conv => lhs; whnf) <;> rfl) .nil))))) (fun e_ => ?_)
      refine T.region ?_
      refine TL.cons rfl (V1.t (V1.move' (by (conv => lhs; whnf) <;> rfl)) ?_)
      refine TL.nil ?_
      refine T.cond_f rfl ?_
      refine T.skip ?_
      refine T.seq ?_
      refine T.seq ?_
      refine T.region ?_
      refine TL.cons rfl (V1.t (V1.fieldAddr fl_44_0 rfl) ?_)
      refine TL.cons rfl (V1.t (V1.load1 one_9 rfl (.own (cells := [.string (bstr a), .int .i64 pw]) (by repeat (first | exact Find.here | assumption | apply Find.there | apply Find.far)) (by rfl))) ?_)
      refine TL.cons rfl (V1.t (V1.move' (by (conv => lhs; whnf) <;> rfl)) ?_)
      refine TL.cons rfl (V1.t (V1.sliceB 0 r ty_9 rfl rfl rfl (by omega) (by omega)) ?_)
      rw [plc_first]
      refine TL.cons rfl (T1.call0 has_25 rfl (fun w hs => refnoughts_any (plc r 0 a) w (by omega)) (fun v_ hv => ?_))
      obtain rfl := hv
      refine TL.cons rfl (V1.t (V1.not rfl rfl) ?_)
      refine TL.nil ?_
      refine T.cond_split rfl (fun hc => ?_) (fun hc => ?_)
      ·
        refine T.seq ?_
        refine T.region ?_
        refine TL.cons rfl (V1.t (V1.build0 pl_40 zr_40) ?_)
        refine TL.cons rfl (T1.storeN (vs := [.int .i64 0, .string (bstr [])]) rfl rfl sz_40 (ones rfl) (by repeat (first | exact Sub.one | apply Sub.there | apply Sub.far)) (by rfl) (by rfl) ?_)
        ·
          refine TL.cons rfl (V1.t (V1.assign' (by (conv => lhs; whnf) <;> rfl)) ?_)
          refine TL.nil ?_
          refine T.ret ?_
          obtain ⟨b, hbm, hbz⟩ : ∃ b ∈ plc r 0 a, b ≠ 0 := by
            apply Classical.byContradiction; intro hno
            have hall : ∀ y ∈ plc r 0 a, y = 0 := fun y hy => Classical.byContradiction fun hne => hno ⟨y, hy, hne⟩
            rw [decide_eq_true hall] at hc; cases hc
          exact ⟨_, [], _, .cons (.cellN (by (conv => lhs; whnf) <;> rfl) one_40 sz_40 (RdN.whole (cells := [.int .i64 0, .string (bstr [])]) (by repeat (first | exact Find.here | assumption | apply Find.there | apply Find.far))) (by rfl)) (.cons (.tmp (by (conv => lhs; whnf) <;> rfl)) .nil), Take.nil, rfl, by rw [openP_n hx0 hx1 hbm hbz]; rfl⟩
      ·
        refine T.skip ?_
        refine T.seq ?_
        refine T.region ?_
        refine TL.cons rfl (V1.t (V1.build0 pl_40 zr_40) ?_)
        refine TL.cons rfl (T1.storeN (vs := [.int .i64 0, .string (bstr [])]) rfl rfl sz_40 (ones rfl) (by repeat (first | exact Sub.one | apply Sub.there | apply Sub.far)) (by rfl) (by rfl) ?_)
        ·
          refine TL.cons rfl (V1.t (V1.assign' (by (conv => lhs; whnf) <;> rfl)) ?_)
          refine TL.nil ?_
          refine T.ret ?_
          have hall : ∀ y ∈ plc r 0 a, y = 0 := by
            apply Classical.byContradiction; intro hno
            rw [decide_eq_false hno] at hc; cases hc
          exact ⟨_, [], _, .cons (.cellN (by (conv => lhs; whnf) <;> rfl) one_40 sz_40 (RdN.whole (cells := [.int .i64 0, .string (bstr [])]) (by repeat (first | exact Find.here | assumption | apply Find.there | apply Find.far))) (by rfl)) (.cons (.tmp (by (conv => lhs; whnf) <;> rfl)) .nil), Take.nil, rfl, by rw [openP_0 hx0 hx1 hall]; rfl⟩
    ·
      obtain ⟨rfl, rfl⟩ := hv1 rfl
      refine TL.cons rfl (V1.t (V1.move' (by (conv => lhs; whnf) <;> rfl)) ?_)
      refine TL.cons rfl (V1.t (V1.extract rfl (by rfl)) ?_)
      refine TL.cons rfl (V1.t (V1.extract rfl (by rfl)) ?_)
      refine TL.cons rfl (T1.allocN 2 zr_40 rfl (fun b7 => ?_))
      refine TL.cons rfl (T1.storeN (vs := [.int .i64 (numP (plc r 1 a) : Nat), .string (bstr (valP (plc r 1 a)))]) rfl rfl sz_40 (ones rfl) (by repeat (first | exact Sub.one | apply Sub.there | apply Sub.far)) (by rfl) (by rfl) ?_)
      refine TL.cons rfl (V1.t (V1.assign' rfl) ?_)
      refine TL.nil ?_
      refine T.seq ?_
      refine T.region ?_
      refine TL.cons rfl (V1.t (V1.move' (by (conv => lhs; whnf) <;> rfl)) ?_)
      refine TL.cons rfl (V1.t (V1.move' (by (conv => lhs; whnf) <;> rfl)) ?_)
      refine TL.no rfl ?_
      refine TL.no rfl ?_
      refine TL.no rfl ?_
      refine TL.no rfl ?_
      refine TL.cons rfl (V1.t (V1.pick rfl (by (conv => lhs; whnf) <;> rfl)) ?_)
      refine TL.cons rfl (V1.t (V1.assign' (by (conv => lhs; whnf) <;> rfl)) ?_)
      refine TL.nil ?_
      refine T.seq ?_
      refine T.live (l := [(1, _), (2, _), (4, _), (5, _), (6, _), (7, _), (8, _)]) (.cons (by (conv => lhs; whnf) <;> rfl) (.cons (by (conv => lhs; whnf) <;> rfl) (.cons (by (conv => lhs; whnf) <;> rfl) (.cons (by (conv => lhs; whnf) <;> rfl) (.cons (by (conv => lhs; whnf) <;> rfl) (.cons (by (conv => lhs; whnf) <;> rfl) (.cons (by (conv => lhs; whnf) <;> rfl) .nil))))))) (fun e_ => ?_)
      refine T.region ?_
      refine TL.cons rfl (V1.t (V1.move' (by (conv => lhs; whnf) <;> rfl)) ?_)
      refine TL.cons rfl (V1.t (V1.move' (by (conv => lhs; whnf) <;> rfl)) ?_)
      refine TL.cons rfl (V1.t (V1.fieldAddr fl_40_0 rfl) ?_)
      refine TL.cons rfl (V1.t (V1.load1 one_3 rfl (.own (cells := [.int .i64 (numP (plc r 1 a) : Nat), .string (bstr (valP (plc r 1 a)))]) (by repeat (first | exact Find.here | assumption | apply Find.there | apply Find.far)) (by rfl))) ?_)
      refine TL.cons rfl (V1.t (V1.rem (c := ((numP (plc r 1 a) % 2 : Nat) : Int)) rfl rfl (by decide) ((Int.ofNat_tmod _ 2).symm)) ?_)
      refine TL.cons rfl (V1.t (V1.eqI (r := true) rfl rfl (decide_eq_true (by omega))) ?_)
      refine TL.cons rfl (V1.t (V1.pick rfl (by (conv => lhs; whnf) <;> rfl)) ?_)
      refine TL.cons rfl (V1.t (V1.assign' (by (conv => lhs; whnf) <;> rfl)) ?_)
      refine TL.nil ?_
      refine T.seq ?_
      refine T.seq ?_
      refine T.region ?_
      refine TL.cons rfl (V1.t (V1.move' (by (conv => lhs; whnf) <;> rfl)) ?_)
      refine TL.cons rfl (V1.t (V1.move' (by (conv => lhs; whnf) <;> rfl)) ?_)
      refine TL.no rfl ?_
      refine TL.no rfl ?_
      refine TL.no rfl ?_
      refine TL.no rfl ?_
      refine TL.no rfl ?_
      refine TL.no rfl ?_
      refine TL.no rfl ?_
      refine TL.no rfl ?_
      refine TL.no rfl ?_
      refine TL.cons rfl (V1.t (V1.pick rfl (by (conv => lhs; whnf) <;> rfl)) ?_)
      refine TL.nil ?_
      refine T.cond_f rfl ?_
      refine T.skip ?_
      refine T.seq ?_
      refine T.seq ?_
      refine T.live (l := [(1, _), (2, _), (4, _), (7, _), (8, _)]) (.cons (by (conv => lhs; whnf) <;> rfl) (.cons (by (conv => lhs; whnf) <;> rfl) (.cons (by (conv => lhs; whnf) <;> rfl) (.cons (by (conv => lhs; whnf) <;> rfl) (.cons (by (conv => lhs; whnf) <;> rfl) .nil))))) (fun e_ => ?_)
      refine T.region ?_
      refine TL.cons rfl (V1.t (V1.move' (by (conv => lhs; whnf) <;> rfl)) ?_)
      refine TL.nil ?_
      refine T.cond_t rfl ?_
      refine T.seq ?_
      refine T.region ?_
      refine TL.cons rfl (V1.t (V1.loadN (vs := [.int .i64 (numP (plc r 1 a) : Nat), .string (bstr (valP (plc r 1 a)))]) one_40 sz_40 rfl (RdN.whole (by repeat (first | exact Find.here | assumption | apply Find.there | apply Find.far))) (by rfl)) ?_)
      refine TL.cons rfl (T1.storeN (vs := [.int .i64 (numP (plc r 1 a) : Nat), .string (bstr (valP (plc r 1 a)))]) rfl rfl sz_40 (ones rfl) (by repeat (first | exact Sub.one | apply Sub.there | apply Sub.far)) (by rfl) (by rfl) ?_)
      ·
        refine TL.cons rfl (V1.t (V1.assign' (by (conv => lhs; whnf) <;> rfl)) ?_)
        refine TL.nil ?_
        refine T.ret ?_
        exact ⟨_, [], _, .cons (.cellN (by (conv => lhs; whnf) <;> rfl) one_40 sz_40 (RdN.whole (cells := [.int .i64 (numP (plc r 1 a) : Nat), .string (bstr (valP (plc r 1 a)))]) (by repeat (first | exact Find.here | assumption | apply Find.there | apply Find.far))) (by rfl)) (.cons (.tmp (by (conv => lhs; whnf) <;> rfl)) .nil), Take.nil, rfl, by rw [openP_y hok1.symm hp1 (fun h => hx0 ⟨h.1, h.2.1⟩)]; rfl⟩
    ·
      obtain ⟨rfl, rfl⟩ := hv1 rfl
      have hx1 : ¬ (okP (plc r 1 a) = true ∧ numP (plc r 1 a) % 2 = 1) := fun h => hp1 h.2
      refine TL.cons rfl (V1.t (V1.move' (by (conv => lhs; whnf) <;> rfl)) ?_)
      refine TL.cons rfl (V1.t (V1.extract rfl (by rfl)) ?_)
      refine TL.cons rfl (V1.t (V1.extract rfl (by rfl)) ?_)
      refine TL.cons rfl (T1.allocN 2 zr_40 rfl (fun b7 => ?_))
      refine TL.cons rfl (T1.storeN (vs := [.int .i64 (numP (plc r 1 a) : Nat), .string (bstr (valP (plc r 1 a)))]) rfl rfl sz_40 (ones rfl) (by repeat (first | exact Sub.one | apply Sub.there | apply Sub.far)) (by rfl) (by rfl) ?_)
      refine TL.cons rfl (V1.t (V1.assign' rfl) ?_)
      refine TL.nil ?_
      refine T.seq ?_
      refine T.region ?_
      refine TL.cons rfl (V1.t (V1.move' (by (conv => lhs; whnf) <;> rfl)) ?_)
      refine TL.cons rfl (V1.t (V1.move' (by (conv => lhs; whnf) <;> rfl)) ?_)
      refine TL.no rfl ?_
      refine TL.no rfl ?_
      refine TL.no rfl ?_
      refine TL.no rfl ?_
      refine TL.cons rfl (V1.t (V1.pick rfl (by (conv => lhs; whnf) <;> rfl)) ?_)
      refine TL.cons rfl (V1.t (V1.assign' (by (conv => lhs; whnf) <;> rfl)) ?_)
      refine TL.nil ?_
      refine T.seq ?_
      refine T.live (l := [(1, _), (2, _), (4, _), (5, _), (6, _), (7, _), (8, _)]) (.cons (by (conv => lhs; whnf) <;> rfl) (.cons (by (conv => lhs; whnf) <;> rfl) (.cons (by (conv => lhs; whnf) <;> rfl) (.cons (by (conv => lhs; whnf) <;> rfl) (.cons (by (conv => lhs; whnf) <;> rfl) (.cons (by (conv => lhs; whnf) <;> rfl) (.cons (by (conv => lhs; whnf) <;> rfl) .nil))))))) (fun e_ => ?_)
      refine T.region ?_
      refine TL.cons rfl (V1.t (V1.move' (by (conv => lhs; whnf) <;> rfl)) ?_)
      refine TL.cons rfl (V1.t (V1.move' (by (conv => lhs; whnf) <;> rfl)) ?_)
      refine TL.cons rfl (V1.t (V1.fieldAddr fl_40_0 rfl) ?_)
      refine TL.cons rfl (V1.t (V1.load1 one_3 rfl (.own (cells := [.int .i64 (numP (plc r 1 a) : Nat), .string (bstr (valP (plc r 1 a)))]) (by repeat (first | exact Find.here | assumption | apply Find.there | apply Find.far)) (by rfl))) ?_)
      refine TL.cons rfl (V1.t (V1.rem (c := ((numP (plc r 1 a) % 2 : Nat) : Int)) rfl rfl (by decide) ((Int.ofNat_tmod _ 2).symm)) ?_)
      refine TL.cons rfl (V1.t (V1.eqI (r := false) rfl rfl (decide_eq_false (by omega))) ?_)
      refine TL.cons rfl (V1.t (V1.pick rfl (by (conv => lhs; whnf) <;> rfl)) ?_)
      refine TL.cons rfl (V1.t (V1.assign' (by (conv => lhs; whnf) <;> rfl)) ?_)
      refine TL.nil ?_
      refine T.seq ?_
      refine T.seq ?_
      refine T.region ?_
      refine TL.cons rfl (V1.t (V1.move' (by (conv => lhs; whnf) <;> rfl)) ?_)
      refine TL.cons rfl (V1.t (V1.move' (by (conv => lhs; whnf) <;> rfl)) ?_)
      refine TL.no rfl ?_
      refine TL.no rfl ?_
      refine TL.no rfl ?_
      refine TL.no rfl ?_
      refine TL.no rfl ?_
      refine TL.no rfl ?_
      refine TL.no rfl ?_
      refine TL.no rfl ?_
      refine TL.no rfl ?_
      refine TL.cons rfl (V1.t (V1.pick rfl (by (conv => lhs; whnf) <;> rfl)) ?_)
      refine TL.nil ?_
      refine T.cond_f rfl ?_
      refine T.skip ?_
      refine T.seq ?_
      refine T.seq ?_
      refine T.live (l := [(1, _), (2, _), (4, _), (7, _), (8, _)]) (.cons (by (conv => lhs; whnf) <;> rfl) (.cons (by (conv => lhs; whnf) <;> rfl) (.cons (by (conv => lhs; whnf) <;> rfl) (.cons (by (conv => lhs; whnf) <;> rfl) (.cons (by (conv => lhs; whnf) <;> rfl) .nil))))) (fun e_ => ?_)
      refine T.region ?_
      refine TL.cons rfl (V1.t (V1.move' (by (conv => lhs; whnf) <;> rfl)) ?_)
      refine TL.nil ?_
      refine T.cond_f rfl ?_
      refine T.skip ?_
      refine T.seq ?_
      refine T.seq ?_
      refine T.region ?_
      refine TL.cons rfl (V1.t (V1.fieldAddr fl_44_0 rfl) ?_)
      refine TL.cons rfl (V1.t (V1.load1 one_9 rfl (.own (cells := [.string (bstr a), .int .i64 pw]) (by repeat (first | exact Find.here | assumption | apply Find.there | apply Find.far)) (by rfl))) ?_)
      refine TL.cons rfl (V1.t (V1.move' (by (conv => lhs; whnf) <;> rfl)) ?_)
      refine TL.cons rfl (V1.t (V1.sliceB 0 r ty_9 rfl rfl rfl (by omega) (by omega)) ?_)
      rw [plc_first]
      refine TL.cons rfl (T1.call0 has_25 rfl (fun w hs => refnoughts_any (plc r 0 a) w (by omega)) (fun v_ hv => ?_))
      obtain rfl := hv
      refine TL.cons rfl (V1.t (V1.not rfl rfl) ?_)
      refine TL.nil ?_
      refine T.cond_split rfl (fun hc => ?_) (fun hc => ?_)
      ·
        refine T.seq ?_
        refine T.region ?_
        refine TL.cons rfl (V1.t (V1.build0 pl_40 zr_40) ?_)
        refine TL.cons rfl (T1.storeN (vs := [.int .i64 0, .string (bstr [])]) rfl rfl sz_40 (ones rfl) (by repeat (first | exact Sub.one | apply Sub.there | apply Sub.far)) (by rfl) (by rfl) ?_)
        ·
          refine TL.cons rfl (V1.t (V1.assign' (by (conv => lhs; whnf) <;> rfl)) ?_)
          refine TL.nil ?_
          refine T.ret ?_
          obtain ⟨b, hbm, hbz⟩ : ∃ b ∈ plc r 0 a, b ≠ 0 := by
            apply Classical.byContradiction; intro hno
            have hall : ∀ y ∈ plc r 0 a, y = 0 := fun y hy => Classical.byContradiction fun hne => hno ⟨y, hy, hne⟩
            rw [decide_eq_true hall] at hc; cases hc
          exact ⟨_, [], _, .cons (.cellN (by (conv => lhs; whnf) <;> rfl) one_40 sz_40 (RdN.whole (cells := [.int .i64 0, .string (bstr [])]) (by repeat (first | exact Find.here | assumption | apply Find.there | apply Find.far))) (by rfl)) (.cons (.tmp (by (conv => lhs; whnf) <;> rfl)) .nil), Take.nil, rfl, by rw [openP_n hx0 hx1 hbm hbz]; rfl⟩
      ·
        refine T.skip ?_
        refine T.seq ?_
        refine T.region ?_
        refine TL.cons rfl (V1.t (V1.build0 pl_40 zr_40) ?_)
        refine TL.cons rfl (T1.storeN (vs := [.int .i64 0, .string (bstr [])]) rfl rfl sz_40 (ones rfl) (by repeat (first | exact Sub.one | apply Sub.there | apply Sub.far)) (by rfl) (by rfl) ?_)
        ·
          refine TL.cons rfl (V1.t (V1.assign' (by (conv => lhs; whnf) <;> rfl)) ?_)
          refine TL.nil ?_
          refine T.ret ?_
          have hall : ∀ y ∈ plc r 0 a, y = 0 := by
            apply Classical.byContradiction; intro hno
            rw [decide_eq_false hno] at hc; cases hc
          exact ⟨_, [], _, .cons (.cellN (by (conv => lhs; whnf) <;> rfl) one_40 sz_40 (RdN.whole (cells := [.int .i64 0, .string (bstr [])]) (by repeat (first | exact Find.here | assumption | apply Find.there | apply Find.far))) (by rfl)) (.cons (.tmp (by (conv => lhs; whnf) <;> rfl)) .nil), Take.nil, rfl, by rw [openP_0 hx0 hx1 hall]; rfl⟩
  ·
    obtain ⟨rfl, rfl⟩ := hv0 rfl
    refine TL.cons rfl (V1.t (V1.move' (by (conv => lhs; whnf) <;> rfl)) ?_)
    refine TL.cons rfl (V1.t (V1.extract rfl (by rfl)) ?_)
    refine TL.cons rfl (V1.t (V1.extract rfl (by rfl)) ?_)
    refine TL.cons rfl (T1.allocN 2 zr_40 rfl (fun b5 => ?_))
    refine TL.cons rfl (T1.storeN (vs := [.int .i64 (numP (plc r 0 a) : Nat), .string (bstr (valP (plc r 0 a)))]) rfl rfl sz_40 (ones rfl) (by repeat (first | exact Sub.one | apply Sub.there | apply Sub.far)) (by rfl) (by rfl) ?_)
    refine TL.cons rfl (V1.t (V1.assign' rfl) ?_)
    refine TL.nil ?_
    refine T.seq ?_
    refine T.live (l := [(1, _), (2, _), (4, _), (5, _), (6, _)]) (.cons (by (conv => lhs; whnf) <;> rfl) (.cons (by (conv => lhs; whnf) <;> rfl) (.cons (by (conv => lhs; whnf) <;> rfl) (.cons (by (conv => lhs; whnf) <;> rfl) (.cons (by (conv => lhs; whnf) <;> rfl) .nil))))) (fun e_ => ?_)
    refine T.region ?_
    refine TL.cons rfl (V1.t (V1.fieldAddr fl_44_0 rfl) ?_)
    refine TL.cons rfl (V1.t (V1.load1 one_9 rfl (.own (cells := [.string (bstr a), .int .i64 pw]) (by repeat (first | exact Find.here | assumption | apply Find.there | apply Find.far)) (by rfl))) ?_)
    refine TL.cons rfl (V1.t (V1.move' (by (conv => lhs; whnf) <;> rfl)) ?_)
    refine TL.cons rfl (V1.t (V1.sliceB r a.length ty_9 rfl rfl rfl (by omega) (Nat.le_refl _)) ?_)
    rw [plc_second ha]
    refine TL.cons rfl (V1.t (V1.move' (by (conv => lhs; whnf) <;> rfl)) ?_)
    refine TL.cons rfl (T1.call0 has_24 rfl (fun w hs => reflook_any (plc r 1 a) r w hpl1 (by omega) (by omega)) (fun v_ hv => ?_))
    obtain ⟨n1, vv1, ok1, rfl, hok1, hv1⟩ := hv
    rcases (show ok1 = false ∨ (ok1 = true ∧ n1 % 2 = 1 ∧ numP (plc r 0 a) < n1) ∨ (ok1 = true ∧ n1 % 2 ≠ 1) ∨ (ok1 = true ∧ n1 % 2 = 1 ∧ ¬ numP (plc r 0 a) < n1) by cases ok1 with | false => exact .inl rfl | true => rcases Decidable.em (n1 % 2 = 1) with h | h; rcases Decidable.em (numP (plc r 0 a) < n1) with g | g; exact .inr (.inl ⟨rfl, h, g⟩); exact .inr (.inr (.inr ⟨rfl, h, g⟩)); exact .inr (.inr (.inl ⟨rfl, h⟩))) with rfl | ⟨rfl, hp1, hg1⟩ | ⟨rfl, hp1⟩ | ⟨rfl, hp1, hg1⟩
    ·
      have hy1 : ¬ (okP (plc r 1 a) = true ∧ numP (plc r 1 a) % 2 = 1 ∧ numP (plc r 0 a) < numP (plc r 1 a)) := by rw [← hok1]; exact fun h => by cases h.1
      refine TL.cons rfl (V1.t (V1.move' (by (conv => lhs; whnf) <;> rfl)) ?_)
      refine TL.cons rfl (V1.t (V1.extract rfl (by rfl)) ?_)
      refine TL.cons rfl (V1.t (V1.extract rfl (by rfl)) ?_)
      refine TL.cons rfl (T1.allocN 2 zr_40 rfl (fun b7 => ?_))
      refine TL.cons rfl (T1.storeN (vs := [.int .i64 (n1 : Nat), .string (bstr (vv1))]) rfl rfl sz_40 (ones rfl) (by repeat (first | exact Sub.one | apply Sub.there | apply Sub.far)) (by rfl) (by rfl) ?_)
      refine TL.cons rfl (V1.t (V1.assign' rfl) ?_)
      refine TL.nil ?_
      refine T.seq ?_
      refine T.region ?_
      refine TL.cons rfl (V1.t (V1.move' (by (conv => lhs; whnf) <;> rfl)) ?_)
      refine TL.cons rfl (V1.t (V1.move' (by (conv => lhs; whnf) <;> rfl)) ?_)
      refine TL.cons rfl (V1.t (V1.fieldAddr fl_40_0 rfl) ?_)
      refine TL.cons rfl (V1.t (V1.load1 one_3 rfl (.own (cells := [.int .i64 (numP (plc r 0 a) : Nat), .string (bstr (valP (plc r 0 a)))]) (by repeat (first | exact Find.here | assumption | apply Find.there | apply Find.far)) (by rfl))) ?_)
      refine TL.cons rfl (V1.t (V1.rem (c := ((numP (plc r 0 a) % 2 : Nat) : Int)) rfl rfl (by decide) ((Int.ofNat_tmod _ 2).symm)) ?_)
      refine TL.cons rfl (V1.t (V1.eqI (r := true) rfl rfl (decide_eq_true (by omega))) ?_)
      refine TL.cons rfl (V1.t (V1.pick rfl (by (conv => lhs; whnf) <;> rfl)) ?_)
      refine TL.cons rfl (V1.t (V1.assign' (by (conv => lhs; whnf) <;> rfl)) ?_)
      refine TL.nil ?_
      refine T.seq ?_
      refine T.live (l := [(1, _), (2, _), (4, _), (5, _), (6, _), (7, _), (8, _)]) (.cons (by (conv => lhs; whnf) <;> rfl) (.cons (by (conv => lhs; whnf) <;> rfl) (.cons (by (conv => lhs; whnf) <;> rfl) (.cons (by (conv => lhs; whnf) <;> rfl) (.cons (by (conv => lhs; whnf) <;> rfl) (.cons (by (conv => lhs; whnf) <;> rfl) (.cons (by (conv => lhs; whnf) <;> rfl) .nil))))))) (fun e_ => ?_)
      refine T.region ?_
      refine TL.cons rfl (V1.t (V1.move' (by (conv => lhs; whnf) <;> rfl)) ?_)
      refine TL.cons rfl (V1.t (V1.move' (by (conv => lhs; whnf) <;> rfl)) ?_)
      refine TL.no rfl ?_
      refine TL.no rfl ?_
      refine TL.no rfl ?_
      refine TL.no rfl ?_
      refine TL.cons rfl (V1.t (V1.pick rfl (by (conv => lhs; whnf) <;> rfl)) ?_)
      refine TL.cons rfl (V1.t (V1.assign' (by (conv => lhs; whnf) <;> rfl)) ?_)
      refine TL.nil ?_
      refine T.seq ?_
      refine T.seq ?_
      refine T.region ?_
      refine TL.cons rfl (V1.t (V1.move' (by (conv => lhs; whnf) <;> rfl)) ?_)
      refine TL.cons rfl (V1.t (V1.move' (by (conv => lhs; whnf) <;> rfl)) ?_)
      refine TL.cons rfl (V1.t (V1.move' (by (conv => lhs; whnf) <;> rfl)) ?_)
      refine TL.cons rfl (V1.t (V1.not rfl rfl) ?_)
      refine TL.cons rfl (V1.t (V1.move' (by (conv => lhs; whnf) <;> rfl)) ?_)
      refine TL.no rfl ?_
      refine TL.no rfl ?_
      refine TL.no rfl ?_
      refine TL.no rfl ?_
      refine TL.no rfl ?_
      refine TL.cons rfl (V1.t (V1.pick rfl (by (conv => lhs; whnf) <;> rfl)) ?_)
      refine TL.cons rfl (V1.t (V1.pick rfl (by (conv => lhs; whnf) <;> rfl)) ?_)
      refine TL.nil ?_
      refine T.cond_t rfl ?_
      refine T.seq ?_
      refine T.live (l := [(2, _), (5, _)]) (.cons (by (conv => lhs; whnf) <;> rfl) (.cons (by (conv => lhs; whnf) <;> rfl) .nil)) (fun e_ => ?_)
      refine T.region ?_
      refine TL.cons rfl (V1.t (V1.loadN (vs := [.int .i64 (numP (plc r 0 a) : Nat), .string (bstr (valP (plc r 0 a)))]) one_40 sz_40 rfl (RdN.whole (by repeat (first | exact Find.here | assumption | apply Find.there | apply Find.far))) (by rfl)) ?_)
      refine TL.cons rfl (T1.storeN (vs := [.int .i64 (numP (plc r 0 a) : Nat), .string (bstr (valP (plc r 0 a)))]) rfl rfl sz_40 (ones rfl) (by repeat (first | exact Sub.one | apply Sub.there | apply Sub.far)) (by rfl) (by rfl) ?_)
      ·
        refine TL.cons rfl (V1.t (V1.assign' (by (conv => lhs; whnf) <;> rfl)) ?_)
        refine TL.nil ?_
        refine T.ret ?_
        exact ⟨_, [], _, .cons (.cellN (by (conv => lhs; whnf) <;> rfl) one_40 sz_40 (RdN.whole (cells := [.int .i64 (numP (plc r 0 a) : Nat), .string (bstr (valP (plc r 0 a)))]) (by repeat (first | exact Find.here | assumption | apply Find.there | apply Find.far))) (by rfl)) (.cons (.tmp (by (conv => lhs; whnf) <;> rfl)) .nil), Take.nil, rfl, by rw [openP_x hok0.symm hp0 hy1]; rfl⟩
    ·
      obtain ⟨rfl, rfl⟩ := hv1 rfl
      refine TL.cons rfl (V1.t (V1.move' (by (conv => lhs; whnf) <;> rfl)) ?_)
      refine TL.cons rfl (V1.t (V1.extract rfl (by rfl)) ?_)
      refine TL.cons rfl (V1.t (V1.extract rfl (by rfl)) ?_)
      refine TL.cons rfl (T1.allocN 2 zr_40 rfl (fun b7 => ?_))
      refine TL.cons rfl (T1.storeN (vs := [.int .i64 (numP (plc r 1 a) : Nat), .string (bstr (valP (plc r 1 a)))]) rfl rfl sz_40 (ones rfl) (by repeat (first | exact Sub.one | apply Sub.there | apply Sub.far)) (by rfl) (by rfl) ?_)
      refine TL.cons rfl (V1.t (V1.assign' rfl) ?_)
      refine TL.nil ?_
      refine T.seq ?_
      refine T.region ?_
      refine TL.cons rfl (V1.t (V1.move' (by (conv => lhs; whnf) <;> rfl)) ?_)
      refine TL.cons rfl (V1.t (V1.move' (by (conv => lhs; whnf) <;> rfl)) ?_)
      refine TL.cons rfl (V1.t (V1.fieldAddr fl_40_0 rfl) ?_)
      refine TL.cons rfl (V1.t (V1.load1 one_3 rfl (.own (cells := [.int .i64 (numP (plc r 0 a) : Nat), .string (bstr (valP (plc r 0 a)))]) (by repeat (first | exact Find.here | assumption | apply Find.there | apply Find.far)) (by rfl))) ?_)
      refine TL.cons rfl (V1.t (V1.rem (c := ((numP (plc r 0 a) % 2 : Nat) : Int)) rfl rfl (by decide) ((Int.ofNat_tmod _ 2).symm)) ?_)
      refine TL.cons rfl (V1.t (V1.eqI (r := true) rfl rfl (decide_eq_true (by omega))) ?_)
      refine TL.cons rfl (V1.t (V1.pick rfl (by (conv => lhs; whnf) <;> rfl)) ?_)
      refine TL.cons rfl (V1.t (V1.assign' (by (conv => lhs; whnf) <;> rfl)) ?_)
      refine TL.nil ?_
      refine T.seq ?_
      refine T.live (l := [(1, _), (2, _), (4, _), (5, _), (6, _), (7, _), (8, _)]) (.cons (by (conv => lhs; whnf) <;> rfl) (.cons (by (conv => lhs; whnf) <;> rfl) (.cons (by (conv => lhs; whnf) <;> rfl) (.cons (by (conv => lhs; whnf) <;> rfl) (.cons (by (conv => lhs; whnf) <;> rfl) (.cons (by (conv => lhs; whnf) <;> rfl) (.cons (by (conv => lhs; whnf) <;> rfl) .nil))))))) (fun e_ => ?_)
      refine T.region ?_
      refine TL.cons rfl (V1.t (V1.move' (by (conv => lhs; whnf) <;> rfl)) ?_)
      refine TL.cons rfl (V1.t (V1.move' (by (conv => lhs; whnf) <;> rfl)) ?_)
      refine TL.cons rfl (V1.t (V1.fieldAddr fl_40_0 rfl) ?_)
      refine TL.cons rfl (V1.t (V1.load1 one_3 rfl (.own (cells := [.int .i64 (numP (plc r 1 a) : Nat), .string (bstr (valP (plc r 1 a)))]) (by repeat (first | exact Find.here | assumption | apply Find.there | apply Find.far)) (by rfl))) ?_)
      refine TL.cons rfl (V1.t (V1.rem (c := ((numP (plc r 1 a) % 2 : Nat) : Int)) rfl rfl (by decide) ((Int.ofNat_tmod _ 2).symm)) ?_)
      refine TL.cons rfl (V1.t (V1.eqI (r := true) rfl rfl (decide_eq_true (by omega))) ?_)
      refine TL.cons rfl (V1.t (V1.pick rfl (by (conv => lhs; whnf) <;> rfl)) ?_)
      refine TL.cons rfl (V1.t (V1.assign' (by (conv => lhs; whnf) <;> rfl)) ?_)
      refine TL.nil ?_
      refine T.seq ?_
      refine T.seq ?_
      refine T.region ?_
      refine TL.cons rfl (V1.t (V1.move' (by (conv => lhs; whnf) <;> rfl)) ?_)
      refine TL.cons rfl (V1.t (V1.move' (by (conv => lhs; whnf) <;> rfl)) ?_)
      refine TL.cons rfl (V1.t (V1.move' (by (conv => lhs; whnf) <;> rfl)) ?_)
      refine TL.cons rfl (V1.t (V1.not rfl rfl) ?_)
      refine TL.cons rfl (V1.t (V1.move' (by (conv => lhs; whnf) <;> rfl)) ?_)
      refine TL.cons rfl (V1.t (V1.fieldAddr fl_40_0 rfl) ?_)
      refine TL.cons rfl (V1.t (V1.load1 one_3 rfl (.own (cells := [.int .i64 (numP (plc r 0 a) : Nat), .string (bstr (valP (plc r 0 a)))]) (by repeat (first | exact Find.here | assumption | apply Find.there | apply Find.far)) (by rfl))) ?_)
      refine TL.cons rfl (V1.t (V1.fieldAddr fl_40_0 rfl) ?_)
      refine TL.cons rfl (V1.t (V1.load1 one_3 rfl (.own (cells := [.int .i64 (numP (plc r 1 a) : Nat), .string (bstr (valP (plc r 1 a)))]) (by repeat (first | exact Find.here | assumption | apply Find.there | apply Find.far)) (by rfl))) ?_)
      refine TL.cons rfl (V1.t (V1.gtI rfl rfl (decide_eq_false (by omega))) ?_)
      refine TL.cons rfl (V1.t (V1.pick rfl (by (conv => lhs; whnf) <;> rfl)) ?_)
      refine TL.cons rfl (V1.t (V1.pick rfl (by (conv => lhs; whnf) <;> rfl)) ?_)
      refine TL.nil ?_
      refine T.cond_f rfl ?_
      refine T.skip ?_
      refine T.seq ?_
      refine T.seq ?_
      refine T.live (l := [(1, _), (2, _), (4, _), (7, _), (8, _)]) (.cons (by (conv => lhs; whnf) <;> rfl) (.cons (by (conv => lhs; whnf) <;> rfl) (.cons (by (conv => lhs; whnf) <;> rfl) (.cons (by (conv => lhs; whnf) <;> rfl) (.cons (by (conv => lhs; whnf) <;> rfl) .nil))))) (fun e_ => ?_)
      refine T.region ?_
      refine TL.cons rfl (V1.t (V1.move' (by (conv => lhs; whnf) <;> rfl)) ?_)
      refine TL.nil ?_
      refine T.cond_t rfl ?_
      refine T.seq ?_
      refine T.region ?_
      refine TL.cons rfl (V1.t (V1.loadN (vs := [.int .i64 (numP (plc r 1 a) : Nat), .string (bstr (valP (plc r 1 a)))]) one_40 sz_40 rfl (RdN.whole (by repeat (first | exact Find.here | assumption | apply Find.there | apply Find.far))) (by rfl)) ?_)
      refine TL.cons rfl (T1.storeN (vs := [.int .i64 (numP (plc r 1 a) : Nat), .string (bstr (valP (plc r 1 a)))]) rfl rfl sz_40 (ones rfl) (by repeat (first | exact Sub.one | apply Sub.there | apply Sub.far)) (by rfl) (by rfl) ?_)
      ·
        refine TL.cons rfl (V1.t (V1.assign' (by (conv => lhs; whnf) <;> rfl)) ?_)
        refine TL.nil ?_
        refine T.ret ?_
        exact ⟨_, [], _, .cons (.cellN (by (conv => lhs; whnf) <;> rfl) one_40 sz_40 (RdN.whole (cells := [.int .i64 (numP (plc r 1 a) : Nat), .string (bstr (valP (plc r 1 a)))]) (by repeat (first | exact Find.here | assumption | apply Find.there | apply Find.far))) (by rfl)) (.cons (.tmp (by (conv => lhs; whnf) <;> rfl)) .nil), Take.nil, rfl, by rw [openP_y hok1.symm hp1 (fun h => by omega)]; rfl⟩
    ·
      obtain ⟨rfl, rfl⟩ := hv1 rfl
      have hy1 : ¬ (okP (plc r 1 a) = true ∧ numP (plc r 1 a) % 2 = 1 ∧ numP (plc r 0 a) < numP (plc r 1 a)) := fun h => hp1 h.2.1
      refine TL.cons rfl (V1.t (V1.move' (by (conv => lhs; whnf) <;> rfl)) ?_)
      refine TL.cons rfl (V1.t (V1.extract rfl (by rfl)) ?_)
      refine TL.cons rfl (V1.t (V1.extract rfl (by rfl)) ?_)
      refine TL.cons rfl (T1.allocN 2 zr_40 rfl (fun b7 => ?_))
      refine TL.cons rfl (T1.storeN (vs := [.int .i64 (numP (plc r 1 a) : Nat), .string (bstr (valP (plc r 1 a)))]) rfl rfl sz_40 (ones rfl) (by repeat (first | exact Sub.one | apply Sub.there | apply Sub.far)) (by rfl) (by rfl) ?_)
      refine TL.cons rfl (V1.t (V1.assign' rfl) ?_)
      refine TL.nil ?_
      refine T.seq ?_
      refine T.region ?_
      refine TL.cons rfl (V1.t (V1.move' (by (conv => lhs; whnf) <;> rfl)) ?_)
      refine TL.cons rfl (V1.t (V1.move' (by (conv => lhs; whnf) <;> rfl)) ?_)
      refine TL.cons rfl (V1.t (V1.fieldAddr fl_40_0 rfl) ?_)
      refine TL.cons rfl (V1.t (V1.load1 one_3 rfl (.own (cells := [.int .i64 (numP (plc r 0 a) : Nat), .string (bstr (valP (plc r 0 a)))]) (by repeat (first | exact Find.here | assumption | apply Find.there | apply Find.far)) (by rfl))) ?_)
      refine TL.cons rfl (V1.t (V1.rem (c := ((numP (plc r 0 a) % 2 : Nat) : Int)) rfl rfl (by decide) ((Int.ofNat_tmod _ 2).symm)) ?_)
      refine TL.cons rfl (V1.t (V1.eqI (r := true) rfl rfl (decide_eq_true (by omega))) ?_)
      refine TL.cons rfl (V1.t (V1.pick rfl (by (conv => lhs; whnf) <;> rfl)) ?_)
      refine TL.cons rfl (V1.t (V1.assign' (by (conv => lhs; whnf) <;> rfl)) ?_)
      refine TL.nil ?_
      refine T.seq ?_
      refine T.live (l := [(1, _), (2, _), (4, _), (5, _), (6, _), (7, _), (8, _)]) (.cons (by (conv => lhs; whnf) <;> rfl) (.cons (by (conv => lhs; whnf) <;> rfl) (.cons (by (conv => lhs; whnf) <;> rfl) (.cons (by (conv => lhs; whnf) <;> rfl) (.cons (by (conv => lhs; whnf) <;> rfl) (.cons (by (conv => lhs; whnf) <;> rfl) (.cons (by (conv => lhs; whnf) <;> rfl) .nil))))))) (fun e_ => ?_)
      refine T.region ?_
      refine TL.cons rfl (V1.t (V1.move' (by (conv => lhs; whnf) <;> rfl)) ?_)
      refine TL.cons rfl (V1.t (V1.move' (by (conv => lhs; whnf) <;> rfl)) ?_)
      refine TL.cons rfl (V1.t (V1.fieldAddr fl_40_0 rfl) ?_)
      refine TL.cons rfl (V1.t (V1.load1 one_3 rfl (.own (cells := [.int .i64 (numP (plc r 1 a) : Nat), .string (bstr (valP (plc r 1 a)))]) (by repeat (first | exact Find.here | assumption | apply Find.there | apply Find.far)) (by rfl))) ?_)
      refine TL.cons rfl (V1.t (V1.rem (c := ((numP (plc r 1 a) % 2 : Nat) : Int)) rfl rfl (by decide) ((Int.ofNat_tmod _ 2).symm)) ?_)
      refine TL.cons rfl (V1.t (V1.eqI (r := false) rfl rfl (decide_eq_false (by omega))) ?_)
      refine TL.cons rfl (V1.t (V1.pick rfl (by (conv => lhs; whnf) <;> rfl)) ?_)
      refine TL.cons rfl (V1.t (V1.assign' (by (conv => lhs; whnf) <;> rfl)) ?_)
      refine TL.nil ?_
      refine T.seq ?_
      refine T.seq ?_
      refine T.region ?_
      refine TL.cons rfl (V1.t (V1.move' (by (conv => lhs; whnf) <;> rfl)) ?_)
      refine TL.cons rfl (V1.t (V1.move' (by (conv => lhs; whnf) <;> rfl)) ?_)
      refine TL.cons rfl (V1.t (V1.move' (by (conv => lhs; whnf) <;> rfl)) ?_)
      refine TL.cons rfl (V1.t (V1.not rfl rfl) ?_)
      refine TL.cons rfl (V1.t (V1.move' (by (conv => lhs; whnf) <;> rfl)) ?_)
      refine TL.no rfl ?_
      refine TL.no rfl ?_
      refine TL.no rfl ?_
      refine TL.no rfl ?_
      refine TL.no rfl ?_
      refine TL.cons rfl (V1.t (V1.pick rfl (by (conv => lhs; whnf) <;> rfl)) ?_)
      refine TL.cons rfl (V1.t (V1.pick rfl (by (conv => lhs; whnf) <;> rfl)) ?_)
      refine TL.nil ?_
      refine T.cond_t rfl ?_
      refine T.seq ?_
      refine T.live (l := [(2, _), (5, _)]) (.cons (by (conv => lhs; whnf) <;> rfl) (.cons (by (conv => lhs; whnf) <;> rfl) .nil)) (fun e_ => ?_)
      refine T.region ?_
      refine TL.cons rfl (V1.t (V1.loadN (vs := [.int .i64 (numP (plc r 0 a) : Nat), .string (bstr (valP (plc r 0 a)))]) one_40 sz_40 rfl (RdN.whole (by repeat (first | exact Find.here | assumption | apply Find.there | apply Find.far))) (by rfl)) ?_)
      refine TL.cons rfl (T1.storeN (vs := [.int .i64 (numP (plc r 0 a) : Nat), .string (bstr (valP (plc r 0 a)))]) rfl rfl sz_40 (ones rfl) (by repeat (first | exact Sub.one | apply Sub.there | apply Sub.far)) (by rfl) (by rfl) ?_)
      ·
        refine TL.cons rfl (V1.t (V1.assign' (by (conv => lhs; whnf) <;> rfl)) ?_)
        refine TL.nil ?_
        refine T.ret ?_
        exact ⟨_, [], _, .cons (.cellN (by (conv => lhs; whnf) <;> rfl) one_40 sz_40 (RdN.whole (cells := [.int .i64 (numP (plc r 0 a) : Nat), .string (bstr (valP (plc r 0 a)))]) (by repeat (first | exact Find.here | assumption | apply Find.there | apply Find.far))) (by rfl)) (.cons (.tmp (by (conv => lhs; whnf) <;> rfl)) .nil), Take.nil, rfl, by rw [openP_x hok0.symm hp0 hy1]; rfl⟩
    ·
      obtain ⟨rfl, rfl⟩ := hv1 rfl
      have hy1 : ¬ (okP (plc r 1 a) = true ∧ numP (plc r 1 a) % 2 = 1 ∧ numP (plc r 0 a) < numP (plc r 1 a)) := fun h => hg1 h.2.2
      refine TL.cons rfl (V1.t (V1.move' (by (conv => lhs; whnf) <;> rfl)) ?_)
      refine TL.cons rfl (V1.t (V1.extract rfl (by rfl)) ?_)
      refine TL.cons rfl (V1.t (V1.extract rfl (by rfl)) ?_)
      refine TL.cons rfl (T1.allocN 2 zr_40 rfl (fun b7 => ?_))
      refine TL.cons rfl (T1.storeN (vs := [.int .i64 (numP (plc r 1 a) : Nat), .string (bstr (valP (plc r 1 a)))]) rfl rfl sz_40 (ones rfl) (by repeat (first | exact Sub.one | apply Sub.there | apply Sub.far)) (by rfl) (by rfl) ?_)
      refine TL.cons rfl (V1.t (V1.assign' rfl) ?_)
      refine TL.nil ?_
      refine T.seq ?_
      refine T.region ?_
      refine TL.cons rfl (V1.t (V1.move' (by (conv => lhs; whnf) <;> rfl)) ?_)
      refine TL.cons rfl (V1.t (V1.move' (by (conv => lhs; whnf) <;> rfl)) ?_)
      refine TL.cons rfl (V1.t (V1.fieldAddr fl_40_0 rfl) ?_)
      refine TL.cons rfl (V1.t (V1.load1 one_3 rfl (.own (cells := [.int .i64 (numP (plc r 0 a) : Nat), .string (bstr (valP (plc r 0 a)))]) (by repeat (first | exact Find.here | assumption | apply Find.there | apply Find.far)) (by rfl))) ?_)
      refine TL.cons rfl (V1.t (V1.rem (c := ((numP (plc r 0 a) % 2 : Nat) : Int)) rfl rfl (by decide) ((Int.ofNat_tmod _ 2).symm)) ?_)
      refine TL.cons rfl (V1.t (V1.eqI (r := true) rfl rfl (decide_eq_true (by omega))) ?_)
      refine TL.cons rfl (V1.t (V1.pick rfl (by (conv => lhs; whnf) <;> rfl)) ?_)
      refine TL.cons rfl (V1.t (V1.assign' (by (conv => lhs; whnf) <;> rfl)) ?_)
      refine TL.nil ?_
      refine T.seq ?_
      refine T.live (l := [(1, _), (2, _), (4, _), (5, _), (6, _), (7, _), (8, _)]) (.cons (by (conv => lhs; whnf) <;> rfl) (.cons (by (conv => lhs; whnf) <;> rfl) (.cons (by (conv => lhs; whnf) <;> rfl) (.cons (by (conv => lhs; whnf) <;> rfl) (.cons (by (conv => lhs; whnf) <;> rfl) (.cons (by (conv => lhs; whnf) <;> rfl) (.cons (by (conv => lhs; whnf) <;> rfl) .nil))))))) (fun e_ => ?_)
      refine T.region ?_
      refine TL.cons rfl (V1.t (V1.move' (by (conv => lhs; whnf) <;> rfl)) ?_)
      refine TL.cons rfl (V1.t (V1.move' (by (conv => lhs; whnf) <;> rfl)) ?_)
      refine TL.cons rfl (V1.t (V1.fieldAddr fl_40_0 rfl) ?_)
      refine TL.cons rfl (V1.t (V1.load1 one_3 rfl (.own (cells := [.int .i64 (numP (plc r 1 a) : Nat), .string (bstr (valP (plc r 1 a)))]) (by repeat (first | exact Find.here | assumption | apply Find.there | apply Find.far)) (by rfl))) ?_)
      refine TL.cons rfl (V1.t (V1.rem (c := ((numP (plc r 1 a) % 2 : Nat) : Int)) rfl rfl (by decide) ((Int.ofNat_tmod _ 2).symm)) ?_)
      refine TL.cons rfl (V1.t (V1.eqI (r := true) rfl rfl (decide_eq_true (by omega))) ?_)
      refine TL.cons rfl (V1.t (V1.pick rfl (by (conv => lhs; whnf) <;> rfl)) ?_)
      refine TL.cons rfl (V1.t (V1.assign' (by (conv => lhs; whnf) <;> rfl)) ?_)
      refine TL.nil ?_
      refine T.seq ?_
      refine T.seq ?_
      refine T.region ?_
      refine TL.cons rfl (V1.t (V1.move' (by (conv => lhs; whnf) <;> rfl)) ?_)
      refine TL.cons rfl (V1.t (V1.move' (by (conv => lhs; whnf) <;> rfl)) ?_)
      refine TL.cons rfl (V1.t (V1.move' (by (conv => lhs; whnf) <;> rfl)) ?_)
      refine TL.cons rfl (V1.t (V1.not rfl rfl) ?_)
      refine TL.cons rfl (V1.t (V1.move' (by (conv => lhs; whnf) <;> rfl)) ?_)
      refine TL.cons rfl (V1.t (V1.fieldAddr fl_40_0 rfl) ?_)
      refine TL.cons rfl (V1.t (V1.load1 one_3 rfl (.own (cells := [.int .i64 (numP (plc r 0 a) : Nat), .string (bstr (valP (plc r 0 a)))]) (by repeat (first | exact Find.here | assumption | apply Find.there | apply Find.far)) (by rfl))) ?_)
      refine TL.cons rfl (V1.t (V1.fieldAddr fl_40_0 rfl) ?_)
      refine TL.cons rfl (V1.t (V1.load1 one_3 rfl (.own (cells := [.int .i64 (numP (plc r 1 a) : Nat), .string (bstr (valP (plc r 1 a)))]) (by repeat (first | exact Find.here | assumption | apply Find.there | apply Find.far)) (by rfl))) ?_)
      refine TL.cons rfl (V1.t (V1.gtI rfl rfl (decide_eq_true (by omega))) ?_)
      refine TL.cons rfl (V1.t (V1.pick rfl (by (conv => lhs; whnf) <;> rfl)) ?_)
      refine TL.cons rfl (V1.t (V1.pick rfl (by (conv => lhs; whnf) <;> rfl)) ?_)
      refine TL.nil ?_
      refine T.cond_t rfl ?_
      refine T.seq ?_
      refine T.live (l := [(2, _), (5, _)]) (.cons (by (conv => lhs; whnf) <;> rfl) (.cons (by (conv => lhs; whnf) <;> rfl) .nil)) (fun e_ => ?_)
      refine T.region ?_
      refine TL.cons rfl (V1.t (V1.loadN (vs := [.int .i64 (numP (plc r 0 a) : Nat), .string (bstr (valP (plc r 0 a)))]) one_40 sz_40 rfl (RdN.whole (by repeat (first | exact Find.here | assumption | apply Find.there | apply Find.far))) (by rfl)) ?_)
      refine TL.cons rfl (T1.storeN (vs := [.int .i64 (numP (plc r 0 a) : Nat), .string (bstr (valP (plc r 0 a)))]) rfl rfl sz_40 (ones rfl) (by repeat (first | exact Sub.one | apply Sub.there | apply Sub.far)) (by rfl) (by rfl) ?_)
      ·
        refine TL.cons rfl (V1.t (V1.assign' (by (conv => lhs; whnf) <;> rfl)) ?_)
        refine TL.nil ?_
        refine T.ret ?_
        exact ⟨_, [], _, .cons (.cellN (by (conv => lhs; whnf) <;> rfl) one_40 sz_40 (RdN.whole (cells := [.int .i64 (numP (plc r 0 a) : Nat), .string (bstr (valP (plc r 0 a)))]) (by repeat (first | exact Find.here | assumption | apply Find.there | apply Find.far))) (by rfl)) (.cons (.tmp (by (conv => lhs; whnf) <;> rfl)) .nil), Take.nil, rfl, by rw [openP_x hok0.symm hp0 hy1]; rfl⟩
  ·
    obtain ⟨rfl, rfl⟩ := hv0 rfl
    have hx0 : ¬ (okP (plc r 0 a) = true ∧ numP (plc r 0 a) % 2 = 0) := fun h => hp0 h.2
    refine TL.cons rfl (V1.t (V1.move' (by (conv => lhs; whnf) <;> rfl)) ?_)
    refine TL.cons rfl (V1.t (V1.extract rfl (by rfl)) ?_)
    refine TL.cons rfl (V1.t (V1.extract rfl (by rfl)) ?_)
    refine TL.cons rfl (T1.allocN 2 zr_40 rfl (fun b5 => ?_))
    refine TL.cons rfl (T1.storeN (vs := [.int .i64 (numP (plc r 0 a) : Nat), .string (bstr (valP (plc r 0 a)))]) rfl rfl sz_40 (ones rfl) (by repeat (first | exact Sub.one | apply Sub.there | apply Sub.far)) (by rfl) (by rfl) ?_)
    refine TL.cons rfl (V1.t (V1.assign' rfl) ?_)
    refine TL.nil ?_
    refine T.seq ?_
    refine T.live (l := [(1, _), (2, _), (4, _), (5, _), (6, _)]) (.cons (by (conv => lhs; whnf) <;> rfl) (.cons (by (conv => lhs; whnf) <;> rfl) (.cons (by (conv => lhs; whnf) <;> rfl) (.cons (by (conv => lhs; whnf) <;> rfl) (.cons (by (conv => lhs; whnf) <;> rfl) .nil))))) (fun e_ => ?_)
    refine T.region ?_
    refine TL.cons rfl (V1.t (V1.fieldAddr fl_44_0 rfl) ?_)
    refine TL.cons rfl (V1.t (V1.load1 one_9 rfl (.own (cells := [.string (bstr a), .int .i64 pw]) (by repeat (first | exact Find.here | assumption | apply Find.there | apply Find.far)) (by rfl))) ?_)
    refine TL.cons rfl (V1.t (V1.move' (by (conv => lhs; whnf) <;> rfl)) ?_)
    refine TL.cons rfl (V1.t (V1.sliceB r a.length ty_9 rfl rfl rfl (by omega) (Nat.le_refl _)) ?_)
    rw [plc_second ha]
    refine TL.cons rfl (V1.t (V1.move' (by (conv => lhs; whnf) <;> rfl)) ?_)
    refine TL.cons rfl (T1.call0 has_24 rfl (fun w hs => reflook_any (plc r 1 a) r w hpl1 (by omega) (by omega)) (fun v_ hv => ?_))
    obtain ⟨n1, vv1, ok1, rfl, hok1, hv1⟩ := hv
    rcases (show ok1 = false ∨ (ok1 = true ∧ n1 % 2 = 1) ∨ (ok1 = true ∧ n1 % 2 ≠ 1) by cases ok1 with | false => exact .inl rfl | true => rcases Decidable.em (n1 % 2 = 1) with h | h; exact .inr (.inl ⟨rfl, h⟩); exact .inr (.inr ⟨rfl, h⟩)) with rfl | ⟨rfl, hp1⟩ | ⟨rfl, hp1⟩
    ·
      have hx1 : ¬ (okP (plc r 1 a) = true ∧ numP (plc r 1 a) % 2 = 1) := by rw [← hok1]; exact fun h => by cases h.1
      refine TL.cons rfl (V1.t (V1.move' (by (conv => lhs; whnf) <;> rfl)) ?_)
      refine TL.cons rfl (V1.t (V1.extract rfl (by rfl)) ?_)
      refine TL.cons rfl (V1.t (V1.extract rfl (by rfl)) ?_)
      refine TL.cons rfl (T1.allocN 2 zr_40 rfl (fun b7 => ?_))
      refine TL.cons rfl (T1.storeN (vs := [.int .i64 (n1 : Nat), .string (bstr (vv1))]) rfl rfl sz_40 (ones rfl) (by repeat (first | exact Sub.one | apply Sub.there | apply Sub.far)) (by rfl) (by rfl) ?_)
      refine TL.cons rfl (V1.t (V1.assign' rfl) ?_)
      refine TL.nil ?_
      refine T.seq ?_
      refine T.region ?_
      refine TL.cons rfl (V1.t (V1.move' (by (conv => lhs; whnf) <;> rfl)) ?_)
      refine TL.cons rfl (V1.t (V1.move' (by (conv => lhs; whnf) <;> rfl)) ?_)
      refine TL.cons rfl (V1.t (V1.fieldAddr fl_40_0 rfl) ?_)
      refine TL.cons rfl (V1.t (V1.load1 one_3 rfl (.own (cells := [.int .i64 (numP (plc r 0 a) : Nat), .string (bstr (valP (plc r 0 a)))]) (by repeat (first | exact Find.here | assumption | apply Find.there | apply Find.far)) (by rfl))) ?_)
      refine TL.cons rfl (V1.t (V1.rem (c := ((numP (plc r 0 a) % 2 : Nat) : Int)) rfl rfl (by decide) ((Int.ofNat_tmod _ 2).symm)) ?_)
      refine TL.cons rfl (V1.t (V1.eqI (r := false) rfl rfl (decide_eq_false (by omega))) ?_)
      refine TL.cons rfl (V1.t (V1.pick rfl (by (conv => lhs; whnf) <;> rfl)) ?_)
      refine TL.cons rfl (V1.t (V1.assign' (by (conv => lhs; whnf) <;> rfl)) ?_)
      refine TL.nil ?_
      refine T.seq ?_
      refine T.live (l := [(1, _), (2, _), (4, _), (5, _), (6, _), (7, _), (8, _)]) (.cons (by (conv => lhs; whnf) <;> rfl) (.cons (by (conv => lhs; whnf) <;> rfl) (.cons (by (conv => lhs; whnf) <;> rfl) (.cons (by (conv => lhs; whnf) <;> rfl) (.cons (by (conv => lhs; whnf) <;> rfl) (.cons (by (conv => lhs; whnf) <;> rfl) (.cons (by (conv => lhs; whnf) <;> rfl) .nil))))))) (fun e_ => ?_)
      refine T.region ?_
      refine TL.cons rfl (V1.t (V1.move' (by (conv => lhs; whnf) <;> rfl)) ?_)
      refine TL.cons rfl (V1.t (V1.move' (by (conv => lhs; whnf) <;> rfl)) ?_)
      refine TL.no rfl ?_
      refine TL.no rfl ?_
      refine TL.no rfl ?_
      refine TL.no rfl ?_
      refine TL.cons rfl (V1.t (V1.pick rfl (by (conv => lhs; whnf) <;> rfl)) ?_)
      refine TL.cons rfl (V1.t (V1.assign' (by (conv => lhs; whnf) <;> rfl)) ?_)
      refine TL.nil ?_
      refine T.seq ?_
      refine T.seq ?_
      refine T.region ?_
      refine TL.cons rfl (V1.t (V1.move' (by (conv => lhs; whnf) <;> rfl)) ?_)
      refine TL.cons rfl (V1.t (V1.move' (by (conv => lhs; whnf) <;> rfl)) ?_)
      refine TL.no rfl ?_
      refine TL.no rfl ?_
      refine TL.no rfl ?_
      refine TL.no rfl ?_
      refine TL.no rfl ?_
      refine TL.no rfl ?_
      refine TL.no rfl ?_
      refine TL.no rfl ?_
      refine TL.no rfl ?_
      refine TL.cons rfl (V1.t (V1.pick rfl (by (conv => lhs; whnf) <;> rfl)) ?_)
      refine TL.nil ?_
      refine T.cond_f rfl ?_
      refine T.skip ?_
      refine T.seq ?_
      refine T.seq ?_
      refine T.live (l := [(1, _), (2, _), (4, _), (7, _), (8, _)]) (.cons (by (conv => lhs; whnf) <;> rfl) (.cons (by (conv => lhs; whnf) <;> rfl) (.cons (by (conv => lhs; whnf) <;> rfl) (.cons (by (conv => lhs; whnf) <;> rfl) (.cons (by (conv => lhs; whnf) <;> rfl) .nil))))) (fun e_ => ?_)
      refine T.region ?_
      refine TL.cons rfl (V1.t (V1.move' (by (conv => lhs; whnf) <;> rfl)) ?_)
      refine TL.nil ?_
      refine T.cond_f rfl ?_
      refine T.skip ?_
      refine T.seq ?_
      refine T.seq ?_
      refine T.region ?_
      refine TL.cons rfl (V1.t (V1.fieldAddr fl_44_0 rfl) ?_)
      refine TL.cons rfl (V1.t (V1.load1 one_9 rfl (.own (cells := [.string (bstr a), .int .i64 pw]) (by repeat (first | exact Find.here | assumption | apply Find.there | apply Find.far)) (by rfl))) ?_)
      refine TL.cons rfl (V1.t (V1.move' (by (conv => lhs; whnf) <;> rfl)) ?_)
      refine TL.cons rfl (V1.t (V1.sliceB 0 r ty_9 rfl rfl rfl (by omega) (by omega)) ?_)
      rw [plc_first]
      refine TL.cons rfl (T1.call0 has_25 rfl (fun w hs => refnoughts_any (plc r 0 a) w (by omega)) (fun v_ hv => ?_))
      obtain rfl := hv
      refine TL.cons rfl (V1.t (V1.not rfl rfl) ?_)
      refine TL.nil ?_
      refine T.cond_split rfl (fun hc => ?_) (fun hc => ?_)
      ·
        refine T.seq ?_
        refine T.region ?_
        refine TL.cons rfl (V1.t (V1.build0 pl_40 zr_40) ?_)
        refine TL.cons rfl (T1.storeN (vs := [.int .i64 0, .string (bstr [])]) rfl rfl sz_40 (ones rfl) (by repeat (first | exact Sub.one | apply Sub.there | apply Sub.far)) (by rfl) (by rfl) ?_)
        ·
          refine TL.cons rfl (V1.t (V1.assign' (by (conv => lhs; whnf) <;> rfl)) ?_)
          refine TL.nil ?_
          refine T.ret ?_
          obtain ⟨b, hbm, hbz⟩ : ∃ b ∈ plc r 0 a, b ≠ 0 := by
            apply Classical.byContradiction; intro hno
            have hall : ∀ y ∈ plc r 0 a, y = 0 := fun y hy => Classical.byContradiction fun hne => hno ⟨y, hy, hne⟩
            rw [decide_eq_true hall] at hc; cases hc
          exact ⟨_, [], _, .cons (.cellN (by (conv => lhs; whnf) <;> rfl) one_40 sz_40 (RdN.whole (cells := [.int .i64 0, .string (bstr [])]) (by repeat (first | exact Find.here | assumption | apply Find.there | apply Find.far))) (by rfl)) (.cons (.tmp (by (conv => lhs; whnf) <;> rfl)) .nil), Take.nil, rfl, by rw [openP_n hx0 hx1 hbm hbz]; rfl⟩
      ·
        refine T.skip ?_
        refine T.seq ?_
        refine T.region ?_
        refine TL.cons rfl (V1.t (V1.build0 pl_40 zr_40) ?_)
        refine TL.cons rfl (T1.storeN (vs := [.int .i64 0, .string (bstr [])]) rfl rfl sz_40 (ones rfl) (by repeat (first | exact Sub.one | apply Sub.there | apply Sub.far)) (by rfl) (by rfl) ?_)
        ·
          refine TL.cons rfl (V1.t (V1.assign' (by (conv => lhs; whnf) <;> rfl)) ?_)
          refine TL.nil ?_
          refine T.ret ?_
          have hall : ∀ y ∈ plc r 0 a, y = 0 := by
            apply Classical.byContradiction; intro hno
            rw [decide_eq_false hno] at hc; cases hc
          exact ⟨_, [], _, .cons (.cellN (by (conv => lhs; whnf) <;> rfl) one_40 sz_40 (RdN.whole (cells := [.int .i64 0, .string (bstr [])]) (by repeat (first | exact Find.here | assumption | apply Find.there | apply Find.far))) (by rfl)) (.cons (.tmp (by (conv => lhs; whnf) <;> rfl)) .nil), Take.nil, rfl, by rw [openP_0 hx0 hx1 hall]; rfl⟩
    ·
      obtain ⟨rfl, rfl⟩ := hv1 rfl
      refine TL.cons rfl (V1.t (V1.move' (by (conv => lhs; whnf) <;> rfl)) ?_)
      refine TL.cons rfl (V1.t (V1.extract rfl (by rfl)) ?_)
      refine TL.cons rfl (V1.t (V1.extract rfl (by rfl)) ?_)
      refine TL.cons rfl (T1.allocN 2 zr_40 rfl (fun b7 => ?_))
      refine TL.cons rfl (T1.storeN (vs := [.int .i64 (numP (plc r 1 a) : Nat), .string (bstr (valP (plc r 1 a)))]) rfl rfl sz_40 (ones rfl) (by repeat (first | exact Sub.one | apply Sub.there | apply Sub.far)) (by rfl) (by rfl) ?_)
      refine TL.cons rfl (V1.t (V1.assign' rfl) ?_)
      refine TL.nil ?_
      refine T.seq ?_
      refine T.region ?_
      refine TL.cons rfl (V1.t (V1.move' (by (conv => lhs; whnf) <;> rfl)) ?_)
      refine TL.cons rfl (V1.t (V1.move' (by (conv => lhs; whnf) <;> rfl)) ?_)
      refine TL.cons rfl (V1.t (V1.fieldAddr fl_40_0 rfl) ?_)
      refine TL.cons rfl (V1.t (V1.load1 one_3 rfl (.own (cells := [.int .i64 (numP (plc r 0 a) : Nat), .string (bstr (valP (plc r 0 a)))]) (by repeat (first | exact Find.here | assumption | apply Find.there | apply Find.far)) (by rfl))) ?_)
      refine TL.cons rfl (V1.t (V1.rem (c := ((numP (plc r 0 a) % 2 : Nat) : Int)) rfl rfl (by decide) ((Int.ofNat_tmod _ 2).symm)) ?_)
      refine TL.cons rfl (V1.t (V1.eqI (r := false) rfl rfl (decide_eq_false (by omega))) ?_)
      refine TL.cons rfl (V1.t (V1.pick rfl (by (conv => lhs; whnf) <;> rfl)) ?_)
      refine TL.cons rfl (V1.t (V1.assign' (by (conv => lhs; whnf) <;> rfl)) ?_)
      refine TL.nil ?_
      refine T.seq ?_
      refine T.live (l := [(1, _), (2, _), (4, _), (5, _), (6, _), (7, _), (8, _)]) (.cons (by (conv => lhs; whnf) <;> rfl) (.cons (by (conv => lhs; whnf) <;> rfl) (.cons (by (conv => lhs; whnf) <;> rfl) (.cons (by (conv => lhs; whnf) <;> rfl) (.cons (by (conv => lhs; whnf) <;> rfl) (.cons (by (conv => lhs; whnf) <;> rfl) (.cons (by (conv => lhs; whnf) <;> rfl) .nil))))))) (fun e_ => ?_)
      refine T.region ?_
      refine TL.cons rfl (V1.t (V1.move' (by (conv => lhs; whnf) <;> rfl)) ?_)
      refine TL.cons rfl (V1.t (V1.move' (by (conv => lhs; whnf) <;> rfl)) ?_)
      refine TL.cons rfl (V1.t (V1.fieldAddr fl_40_0 rfl) ?_)
      refine TL.cons rfl (V1.t (V1.load1 one_3 rfl (.own (cells := [.int .i64 (numP (plc r 1 a) : Nat), .string (bstr (valP (plc r 1 a)))]) (by repeat (first | exact Find.here | assumption | apply Find.there | apply Find.far)) (by rfl))) ?_)
      refine TL.cons rfl (V1.t (V1.rem (c := ((numP (plc r 1 a) % 2 : Nat) : Int)) rfl rfl (by decide) ((Int.ofNat_tmod _ 2).symm)) ?_)
      refine TL.cons rfl (V1.t (V1.eqI (r := true) rfl rfl (decide_eq_true (by omega))) ?_)
      refine TL.cons rfl (V1.t (V1.pick rfl (by (conv => lhs; whnf) <;> rfl)) ?_)
      refine TL.cons rfl (V1.t (V1.assign' (by (conv => lhs; whnf) <;> rfl)) ?_)
      refine TL.nil ?_
      refine T.seq ?_
      refine T.seq ?_
      refine T.region ?_
      refine TL.cons rfl (V1.t (V1.move' (by (conv => lhs; whnf) <;> rfl)) ?_)
      refine TL.cons rfl (V1.t (V1.move' (by (conv => lhs; whnf) <;> rfl)) ?_)
      refine TL.no rfl ?_
      refine TL.no rfl ?_
      refine TL.no rfl ?_
      refine TL.no rfl ?_
      refine TL.no rfl ?_
      refine TL.no rfl ?_
      refine TL.no rfl ?_
      refine TL.no rfl ?_
      refine TL.no rfl ?_
      refine TL.cons rfl (V1.t (V1.pick rfl (by (conv => lhs; whnf) <;> rfl)) ?_)
      refine TL.nil ?_
      refine T.cond_f rfl ?_
      refine T.skip ?_
      refine T.seq ?_
      refine T.seq ?_
      refine T.live (l := [(1, _), (2, _), (4, _), (7, _), (8, _)]) (.cons (by (conv => lhs; whnf) <;> rfl) (.cons (by (conv => lhs; whnf) <;> rfl) (.cons (by (conv => lhs; whnf) <;> rfl) (.cons (by (conv => lhs; whnf) <;> rfl) (.cons (by (conv => lhs; whnf) <;> rfl) .nil))))) (fun e_ => ?_)
      refine T.region ?_
      refine TL.cons rfl (V1.t (V1.move' (by (conv => lhs; whnf) <;> rfl)) ?_)
      refine TL.nil ?_
      refine T.cond_t rfl ?_
      refine T.seq ?_
      refine T.region ?_
      refine TL.cons rfl (V1.t (V1.loadN (vs := [.int .i64 (numP (plc r 1 a) : Nat), .string (bstr (valP (plc r 1 a)))]) one_40 sz_40 rfl (RdN.whole (by repeat (first | exact Find.here | assumption | apply Find.there | apply Find.far))) (by rfl)) ?_)
      refine TL.cons rfl (T1.storeN (vs := [.int .i64 (numP (plc r 1 a) : Nat), .string (bstr (valP (plc r 1 a)))]) rfl rfl sz_40 (ones rfl) (by repeat (first | exact Sub.one | apply Sub.there | apply Sub.far)) (by rfl) (by rfl) ?_)
      ·
        refine TL.cons rfl (V1.t (V1.assign' (by (conv => lhs; whnf) <;> rfl)) ?_)
        refine TL.nil ?_
        refine T.ret ?_
        exact ⟨_, [], _, .cons (.cellN (by (conv => lhs; whnf) <;> rfl) one_40 sz_40 (RdN.whole (cells := [.int .i64 (numP (plc r 1 a) : Nat), .string (bstr (valP (plc r 1 a)))]) (by repeat (first | exact Find.here | assumption | apply Find.there | apply Find.far))) (by rfl)) (.cons (.tmp (by (conv => lhs; whnf) <;> rfl)) .nil), Take.nil, rfl, by rw [openP_y hok1.symm hp1 (fun h => hx0 ⟨h.1, h.2.1⟩)]; rfl⟩
    ·
      obtain ⟨rfl, rfl⟩ := hv1 rfl
      have hx1 : ¬ (okP (plc r 1 a) = true ∧ numP (plc r 1 a) % 2 = 1) := fun h => hp1 h.2
      refine TL.cons rfl (V1.t (V1.move' (by (conv => lhs; whnf) <;> rfl)) ?_)
      refine TL.cons rfl (V1.t (V1.extract rfl (by rfl)) ?_)
      refine TL.cons rfl (V1.t (V1.extract rfl (by rfl)) ?_)
      refine TL.cons rfl (T1.allocN 2 zr_40 rfl (fun b7 => ?_))
      refine TL.cons rfl (T1.storeN (vs := [.int .i64 (numP (plc r 1 a) : Nat), .string (bstr (valP (plc r 1 a)))]) rfl rfl sz_40 (ones rfl) (by repeat (first | exact Sub.one | apply Sub.there | apply Sub.far)) (by rfl) (by rfl) ?_)
      refine TL.cons rfl (V1.t (V1.assign' rfl) ?_)
      refine TL.nil ?_
      refine T.seq ?_
      refine T.region ?_
      refine TL.cons rfl (V1.t (V1.move' (by (conv => lhs; whnf) <;> rfl)) ?_)
      refine TL.cons rfl (V1.t (V1.move' (by (conv => lhs; whnf) <;> rfl)) ?_)
      refine TL.cons rfl (V1.t (V1.fieldAddr fl_40_0 rfl) ?_)
      refine TL.cons rfl (V1.t (V1.load1 one_3 rfl (.own (cells := [.int .i64 (numP (plc r 0 a) : Nat), .string (bstr (valP (plc r 0 a)))]) (by repeat (first | exact Find.here | assumption | apply Find.there | apply Find.far)) (by rfl))) ?_)
      refine TL.cons rfl (V1.t (V1.rem (c := ((numP (plc r 0 a) % 2 : Nat) : Int)) rfl rfl (by decide) ((Int.ofNat_tmod _ 2).symm)) ?_)
      refine TL.cons rfl (V1.t (V1.eqI (r := false) rfl rfl (decide_eq_false (by omega))) ?_)
      refine TL.cons rfl (V1.t (V1.pick rfl (by (conv => lhs; whnf) <;> rfl)) ?_)
      refine TL.cons rfl (V1.t (V1.assign' (by (conv => lhs; whnf) <;> rfl)) ?_)
      refine TL.nil ?_
      refine T.seq ?_
      refine T.live (l := [(1, _), (2, _), (4, _), (5, _), (6, _), (7, _), (8, _)]) (.cons (by (conv => lhs; whnf) <;> rfl) (.cons (by (conv => lhs; whnf) <;> rfl) (.cons (by (conv => lhs; whnf) <;> rfl) (.cons (by (conv => lhs; whnf) <;> rfl) (.cons (by (conv => lhs; whnf) <;> rfl) (.cons (by (conv => lhs; whnf) <;> rfl) (.cons (by (conv => lhs; whnf) <;> rfl) .nil))))))) (fun e_ => ?_)
      refine T.region ?_
      refine TL.cons rfl (V1.t (V1.move' (by (conv => lhs; whnf) <;> rfl)) ?_)
      refine TL.cons rfl (V1.t (V1.move' (by (conv => lhs; whnf) <;> rfl)) ?_)
      refine TL.cons rfl (V1.t (V1.fieldAddr fl_40_0 rfl) ?_)
      refine TL.cons rfl (V1.t (V1.load1 one_3 rfl (.own (cells := [.int .i64 (numP (plc r 1 a) : Nat), .string (bstr (valP (plc r 1 a)))]) (by repeat (first | exact Find.here | assumption | apply Find.there | apply Find.far)) (by rfl))) ?_)
      refine TL.cons rfl (V1.t (V1.rem (c := ((numP (plc r 1 a) % 2 : Nat) : Int)) rfl rfl (by decide) ((Int.ofNat_tmod _ 2).symm)) ?_)
      refine TL.cons rfl (V1.t (V1.eqI (r := false) rfl rfl (decide_eq_false (by omega))) ?_)
      refine TL.cons rfl (V1.t (V1.pick rfl (by (conv => lhs; whnf) <;> rfl)) ?_)
      refine TL.cons rfl (V1.t (V1.assign' (by (conv => lhs; whnf) <;> rfl)) ?_)
      refine TL.nil ?_
      refine T.seq ?_
      refine T.seq ?_
      refine T.region ?_
      refine TL.cons rfl (V1.t (V1.move' (by (conv => lhs; whnf) <;> rfl)) ?_)
      refine TL.cons rfl (V1.t (V1.move' (by (conv => lhs; whnf) <;> rfl)) ?_)
      refine TL.no rfl ?_
      refine TL.no rfl ?_
      refine TL.no rfl ?_
      refine TL.no rfl ?_
      refine TL.no rfl ?_
      refine TL.no rfl ?_
      refine TL.no rfl ?_
      refine TL.no rfl ?_
      refine TL.no rfl ?_
      refine TL.cons rfl (V1.t (V1.pick rfl (by (conv => lhs; whnf) <;> rfl)) ?_)
      refine TL.nil ?_
      refine T.cond_f rfl ?_
      refine T.skip ?_
      refine T.seq ?_
      refine T.seq ?_
      refine T.live (l := [(1, _), (2, _), (4, _), (7, _), (8, _)]) (.cons (by (conv => lhs; whnf) <;> rfl) (.cons (by (conv => lhs; whnf) <;> rfl) (.cons (by (conv => lhs; whnf) <;> rfl) (.cons (by (conv => lhs; whnf) <;> rfl) (.cons (by (conv => lhs; whnf) <;> rfl) .nil))))) (fun e_ => ?_)
      refine T.region ?_
      refine TL.cons rfl (V1.t (V1.move' (by (conv => lhs; whnf) <;> rfl)) ?_)
      refine TL.nil ?_
      refine T.cond_f rfl ?_
      refine T.skip ?_
      refine T.seq ?_
      refine T.seq ?_
      refine T.region ?_
      refine TL.cons rfl (V1.t (V1.fieldAddr fl_44_0 rfl) ?_)
      refine TL.cons rfl (V1.t (V1.load1 one_9 rfl (.own (cells := [.string (bstr a), .int .i64 pw]) (by repeat (first | exact Find.here | assumption | apply Find.there | apply Find.far)) (by rfl))) ?_)
      refine TL.cons rfl (V1.t (V1.move' (by (conv => lhs; whnf) <;> rfl)) ?_)
      refine TL.cons rfl (V1.t (V1.sliceB 0 r ty_9 rfl rfl rfl (by omega) (by omega)) ?_)
      rw [plc_first]
      refine TL.cons rfl (T1.call0 has_25 rfl (fun w hs => refnoughts_any (plc r 0 a) w (by omega)) (fun v_ hv => ?_))
      obtain rfl := hv
      refine TL.cons rfl (V1.t (V1.not rfl rfl) ?_)
      refine TL.nil ?_
      refine T.cond_split rfl (fun hc => ?_) (fun hc => ?_)
      ·
        refine T.seq ?_
        refine T.region ?_
        refine TL.cons rfl (V1.t (V1.build0 pl_40 zr_40) ?_)
        refine TL.cons rfl (T1.storeN (vs := [.int .i64 0, .string (bstr [])]) rfl rfl sz_40 (ones rfl) (by repeat (first | exact Sub.one | apply Sub.there | apply Sub.far)) (by rfl) (by rfl) ?_)
        ·
          refine TL.cons rfl (V1.t (V1.assign' (by (conv => lhs; whnf) <;> rfl)) ?_)
          refine TL.nil ?_
          refine T.ret ?_
          obtain ⟨b, hbm, hbz⟩ : ∃ b ∈ plc r 0 a, b ≠ 0 := by
            apply Classical.byContradiction; intro hno
            have hall : ∀ y ∈ plc r 0 a, y = 0 := fun y hy => Classical.byContradiction fun hne => hno ⟨y, hy, hne⟩
            rw [decide_eq_true hall] at hc; cases hc
          exact ⟨_, [], _, .cons (.cellN (by (conv => lhs; whnf) <;> rfl) one_40 sz_40 (RdN.whole (cells := [.int .i64 0, .string (bstr [])]) (by repeat (first | exact Find.here | assumption | apply Find.there | apply Find.far))) (by rfl)) (.cons (.tmp (by (conv => lhs; whnf) <;> rfl)) .nil), Take.nil, rfl, by rw [openP_n hx0 hx1 hbm hbz]; rfl⟩
      ·
        refine T.skip ?_
        refine T.seq ?_
        refine T.region ?_
        refine TL.cons rfl (V1.t (V1.build0 pl_40 zr_40) ?_)
        refine TL.cons rfl (T1.storeN (vs := [.int .i64 0, .string (bstr [])]) rfl rfl sz_40 (ones rfl) (by repeat (first | exact Sub.one | apply Sub.there | apply Sub.far)) (by rfl) (by rfl) ?_)
        ·
          refine TL.cons rfl (V1.t (V1.assign' (by (conv => lhs; whnf) <;> rfl)) ?_)
          refine TL.nil ?_
          refine T.ret ?_
          have hall : ∀ y ∈ plc r 0 a, y = 0 := by
            apply Classical.byContradiction; intro hno
            rw [decide_eq_false hno] at hc; cases hc
          exact ⟨_, [], _, .cons (.cellN (by (conv => lhs; whnf) <;> rfl) one_40 sz_40 (RdN.whole (cells := [.int .i64 0, .string (bstr [])]) (by repeat (first | exact Find.here | assumption | apply Find.there | apply Find.far))) (by rfl)) (.cons (.tmp (by (conv => lhs; whnf) <;> rfl)) .nil), Take.nil, rfl, by rw [openP_0 hx0 hx1 hall]; rfl⟩

end Go.Proofs.Ytmolpgnekcfimaa.S
