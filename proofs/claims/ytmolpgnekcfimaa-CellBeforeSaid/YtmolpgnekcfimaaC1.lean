/- A disk: what is done with it, byte by byte. -/
import Derived.Test.YtmolpgnekcfimaaSB
import Derived.Test.YtmolpgnekcfimaaM3
import Derived.Test.YtmolpgnekcfimaaCellSpec
namespace Go.Proofs.Ytmolpgnekcfimaa.S
open Go.RowKit

open Sh
theorem be_step8 {q : List UInt8} {c : Nat} {x : UInt8} (hx : q[c]? = some x) (hq : q.length ≤ 8) : (BitVec.ofNat 64 (be (q.take c)) <<< 8) ||| x.toBitVec.setWidth 64 = BitVec.ofNat 64 (be (q.take (c + 1))) := by
  have hc := (List.getElem?_eq_some_iff.1 hx).1
  have hlt := be_lt (q.take c)
  have hle : (256 : Nat) ^ (q.take c).length ≤ 256 ^ 7 := Nat.pow_le_pow_right (by omega) (by rw [List.length_take]; omega)
  have hx8 := x.toNat_lt
  have e7 : (256 : Nat) ^ 7 = 72057594037927936 := by decide
  apply BitVec.eq_of_toNat_eq
  rw [BitVec.toNat_or, BitVec.toNat_shiftLeft, BitVec.toNat_setWidth, BitVec.toNat_ofNat, BitVec.toNat_ofNat, be_take hx, Nat.shiftLeft_eq]
  have hX : x.toBitVec.toNat = x.toNat := rfl
  rw [hX, Nat.mod_eq_of_lt (show be (q.take c) < 2 ^ 64 by omega), Nat.mod_eq_of_lt (show x.toNat < 2 ^ 64 by omega), Nat.mod_eq_of_lt (show be (q.take c) * 2 ^ 8 < 2 ^ 64 by omega), Nat.mod_eq_of_lt (show be (q.take c) * 256 + x.toNat < 2 ^ 64 by omega), show (2 : Nat) ^ 8 = 256 from rfl, Nat.mul_comm]
  exact (Nat.two_pow_add_eq_or_of_lt (i := 8) hx8 _).symm
theorem be8 (q : List UInt8) (h : q.length ≤ 8) : be q < 18446744073709551616 := by
  have h1 := be_lt q
  have h2 : (256 : Nat) ^ q.length ≤ 256 ^ 8 := Nat.pow_le_pow_right (by omega) h
  have e8 : (256 : Nat) ^ 8 = 18446744073709551616 := by decide
  omega
theorem all_take {l : List UInt8} {k : Nat} {x : UInt8} (h : l[k]? = some x) : (∀ y ∈ l.take (k + 1), y = 0) ↔ (∀ y ∈ l.take k, y = 0) ∧ x = 0 := by
  rw [List.take_add_one, h]
  constructor
  · intro g
    exact ⟨fun y hy => g y (List.mem_append_left _ hy), g x (List.mem_append_right _ (by simp))⟩
  · rintro ⟨g1, g2⟩ y hy
    rcases List.mem_append.1 hy with hy | hy
    · exact g1 y hy
    · simp at hy; rw [hy]; exact g2
theorem splice_nil (a : List UInt8) (k : Nat) : splice a k [] = a := by
  unfold splice
  rw [List.append_nil, List.length_nil, Nat.add_zero, List.take_append_drop]
theorem splice_set {a s : List UInt8} {k : Nat} {x : UInt8} (h : k + s.length < a.length) : (splice a k s).set (k + s.length) x = splice a k (s ++ [x]) := by
  apply List.ext_getElem?
  intro i
  rw [List.getElem?_set, splice_get (by omega), splice_get (by rw [List.length_append, List.length_singleton]; omega), splice_len (by omega), List.length_append, List.length_singleton]
  by_cases hi : k + s.length = i
  · rw [if_pos hi, if_pos (by omega), if_pos (by omega), List.getElem?_append_right (by omega), show i - k - s.length = 0 from by omega]; rfl
  · rw [if_neg hi]
    by_cases h2 : k ≤ i ∧ i < k + s.length
    · rw [if_pos h2, if_pos (by omega), List.getElem?_append_left (by omega)]
    · rw [if_neg h2, if_neg (by omega)]
theorem bz_or {z : BitVec 8} {x : UInt8} : z ||| x.toBitVec = 0#8 ↔ z = 0#8 ∧ x = 0 := by
  have := or_xor (x := z) (a := x) (b := 0)
  rw [show (0 : UInt8).toBitVec = 0#8 from rfl, BitVec.xor_zero] at this
  exact this

set_option maxRecDepth 100000 in
set_option maxHeartbeats 1000000 in
theorem number_any (w0 : World) (v : Value) (p : List UInt8) (Ps : List Blk) (hp : PartR w0 Ps v p) (hl : p.length ≤ 8) : FnX P 26 [v] w0 [] Ps (fun r Y => r = .int .u64 (be p : Nat) ∧ Y = Ps) := by
  obtain ⟨pa, pc, rfl⟩ := hp.form
  refine FnX.of 19 [.tmp 2] Go.Proofs.Try.func26 rfl rfl rfl rfl (fun G => ?_)
  refine T.seq ?_
  refine T.region ?_
  refine TL.cons rfl (V1.t (V1.assign' (by (conv => lhs; whnf) <;> rfl)) ?_)
  refine TL.nil ?_
  refine T.seq ?_
  refine T.region ?_
  refine TL.cons rfl (V1.t (V1.assign' (by (conv => lhs; whnf) <;> rfl)) ?_)
  refine TL.nil ?_
  refine T.seq ?_
  refine T.seq ?_
  refine T.region ?_
  refine TL.cons rfl (V1.t (V1.move' (by (conv => lhs; whnf) <;> rfl)) ?_)
  refine TL.cons rfl (V1.t (V1.lenSl ty_33 rfl) ?_)
  refine TL.cons rfl (V1.t (V1.move' (by (conv => lhs; whnf) <;> rfl)) ?_)
  refine TL.nil ?_
  refine T.block ?_
  refine T.loopL (σ := Nat) (l0 := [(6, _), (7, _)]) (fun x => [(8, .int .i64 (x : Nat)), (3, w64 (BitVec.ofNat 64 (be (p.take x))))]) (fun x L => L = Ps ++ G ∧ x ≤ p.length) (fun x => p.length - x) 0 (.cons rfl (.cons rfl .nil)) (.cons (by (conv => lhs; whnf) <;> rfl) (.cons (by (conv => lhs; whnf) <;> rfl) .nil)) (by repeat (first | exact Take.nil | apply Take.one (by repeat (first | exact Pick.here | apply Pick.there | apply Pick.far)) | apply Take.seg (by repeat (first | exact PickS.last | exact PickS.one | exact PickS.here | exact PickS.nil | apply PickS.there | apply PickS.far)) | exact Take.last (by repeat (first | exact PickS.last | exact PickS.one | exact PickS.here | exact PickS.nil | apply PickS.there | apply PickS.far)))) (⟨rfl, Nat.zero_le _⟩) ?_
  rintro c e_ L ⟨rfl, hc⟩
  refine T.seq ?_
  refine T.region ?_
  refine TL.cons rfl (T1.ltI_split rfl rfl (fun h3 => ?_) (fun h3 => ?_))
  ·
    obtain ⟨x, hx⟩ : ∃ x, p[c]? = some x := ⟨_, List.getElem?_eq_getElem (by omega)⟩
    obtain ⟨ba, oa, rfl, hrd⟩ := hp.byte (C := ⟨P, w0, [], 19⟩) rfl rfl (L := Ps ++ G) (by intro B hB; simp [hB]) hx
    refine TL.nil ?_
    refine T.seq ?_
    refine T.cond_t rfl ?_
    refine T.skip ?_
    refine T.seq ?_
    refine T.block ?_
    refine T.seq ?_
    refine T.region ?_
    refine TL.cons rfl (V1.t (V1.indexAddrS ty_33 sz_5 rfl rfl (by omega) (by omega)) ?_)
    refine TL.cons rfl (V1.t (V1.load1 one_5 rfl hrd) ?_)
    refine TL.cons rfl (V1.t (V1.assign' (by (conv => lhs; whnf) <;> rfl)) ?_)
    refine TL.nil ?_
    refine T.region ?_
    refine TL.cons rfl (V1.t (V1.move' (by (conv => lhs; whnf) <;> rfl)) ?_)
    refine TL.cons rfl (V1.t (V1.shlW (k := 8) u64U rfl rfl) ?_)
    refine TL.cons rfl (V1.t (V1.move' (by (conv => lhs; whnf) <;> rfl)) ?_)
    refine TL.cons rfl (V1.t (V1.convW 64 u64U ty_5 ty_32 rfl) ?_)
    refine TL.cons rfl (V1.t (V1.orW u64U rfl rfl) ?_)
    refine TL.cons rfl (V1.t (V1.assign' (by (conv => lhs; whnf) <;> rfl)) ?_)
    refine TL.nil ?_
    refine T.region ?_
    refine TL.cons rfl (V1.t (V1.add rfl rfl (wrap_i64 _ (by omega) (by omega))) ?_)
    refine TL.cons rfl (V1.t (V1.move' (by (conv => lhs; whnf) <;> rfl)) ?_)
    refine TL.nil ?_
    exact ⟨c + 1, _, _, (by simp only; omega), (.cons rfl (.cons (congrArg w64 (be_step8 hx hl)) .nil)), (.cons rfl (.cons rfl .nil)), (by repeat (first | exact Take.nil | apply Take.one (by repeat (first | exact Pick.here | apply Pick.there | apply Pick.far)) | apply Take.seg (by repeat (first | exact PickS.last | exact PickS.one | exact PickS.here | exact PickS.nil | apply PickS.there | apply PickS.far)) | exact Take.last (by repeat (first | exact PickS.last | exact PickS.one | exact PickS.here | exact PickS.nil | apply PickS.there | apply PickS.far)))), ⟨rfl, by omega⟩⟩
  ·
    obtain rfl : c = p.length := by omega
    rw [List.take_length]
    refine TL.nil ?_
    refine T.seq ?_
    refine T.cond_f rfl ?_
    refine T.exit ?_
    refine T.seq ?_
    refine T.region ?_
    refine TL.cons rfl (V1.t (V1.move' (by (conv => lhs; whnf) <;> rfl)) ?_)
    refine TL.cons rfl (V1.t (V1.assign' (by (conv => lhs; whnf) <;> rfl)) ?_)
    refine TL.nil ?_
    refine T.ret ?_
    exact ⟨_, Ps ++ G, _, .cons (.tmp (by (conv => lhs; whnf) <;> rfl)) .nil, (by repeat (first | exact Take.nil | apply Take.one (by repeat (first | exact Pick.here | apply Pick.there | apply Pick.far)) | apply Take.seg (by repeat (first | exact PickS.last | exact PickS.one | exact PickS.here | exact PickS.nil | apply PickS.there | apply PickS.far)) | exact Take.last (by repeat (first | exact PickS.last | exact PickS.one | exact PickS.here | exact PickS.nil | apply PickS.there | apply PickS.far)))), Ps, rfl, congrArg (fun z : Nat => Value.int .u64 (z : Int)) (by rw [BitVec.toNat_ofNat]; exact Nat.mod_eq_of_lt (be8 p hl)), rfl⟩

set_option maxRecDepth 100000 in
set_option maxHeartbeats 1000000 in
theorem digits_any (n wd : Nat) (w : World) (hn : n < 18446744073709551616) (hw : wd ≤ 8) : Fn P 21 [.int .u64 (n : Int), .int .i64 (wd : Int)] w [] (fun v Y => Sl v ((dig n wd).map byteV) 1 Y) := by
  refine Fn.of 22 [.tmp 4] Go.Proofs.Try.func21 rfl rfl rfl rfl ?_
  refine T.seq ?_
  refine T.region ?_
  refine TL.cons rfl (V1.t (V1.assign' (by (conv => lhs; whnf) <;> rfl)) ?_)
  refine TL.nil ?_
  refine T.seq ?_
  refine T.region ?_
  refine TL.cons rfl (V1.t (V1.assign' (by (conv => lhs; whnf) <;> rfl)) ?_)
  refine TL.nil ?_
  refine T.seq ?_
  refine T.seq ?_
  refine T.region ?_
  refine TL.cons rfl (V1.t (V1.move' (by (conv => lhs; whnf) <;> rfl)) ?_)
  refine TL.cons rfl (V1.t (V1.sub (c := (wd : Int) - 1) rfl rfl (by rw [wrap_i64 _ (by omega) (by omega)])) ?_)
  refine TL.cons rfl (V1.t (V1.assign' (by (conv => lhs; whnf) <;> rfl)) ?_)
  refine TL.nil ?_
  refine T.block ?_
  refine T.loopL (σ := Nat × Value × List Blk) (l0 := [(0, _)]) (fun x => [(6, .int .i64 ((wd : Int) - 1 - (x.1 : Nat))), (5, x.2.1)]) (fun x L => L = x.2.2 ++ [] ∧ Sl x.2.1 (((dig n wd).take x.1).map byteV) 1 x.2.2 ∧ x.1 ≤ wd) (fun x => wd - x.1) (0, .slice none 0 0, []) (.cons (show Value.int .i64 ((wd : Int) - 1) = Value.int .i64 ((wd : Int) - 1 - ((0 : Nat) : Int)) from congrArg _ (by omega)) (.cons rfl .nil)) (.cons (by (conv => lhs; whnf) <;> rfl) .nil) Take.nil (⟨(rfl : [] = _), by simp only; rw [List.take_zero]; exact Sl.nil, Nat.zero_le _⟩) ?_
  rintro ⟨j, s, Ls⟩ e_ L ⟨rfl, hsl, hj⟩
  simp only at hsl hj
  refine T.seq ?_
  refine T.seq ?_
  refine T.region ?_
  refine TL.cons rfl (V1.t (V1.move' (by (conv => lhs; whnf) <;> rfl)) ?_)
  refine TL.cons rfl (T1.geI_split rfl rfl (fun h3 => ?_) (fun h3 => ?_))
  ·
    simp only at h3
    have hjw : j < wd := by omega
    have hdl : ((dig n wd).take j).length ≤ 8 := by rw [List.length_take, dig_len]; omega
    refine TL.nil ?_
    refine T.cond_t rfl ?_
    refine T.skip ?_
    refine T.seq ?_
    refine T.block ?_
    refine T.region ?_
    refine TL.cons rfl (V1.t (V1.move' (by (conv => lhs; whnf) <;> rfl)) ?_)
    refine TL.cons rfl (V1.t (V1.move' (by (conv => lhs; whnf) <;> rfl)) ?_)
    refine TL.cons rfl (V1.t (V1.move' (by (conv => lhs; whnf) <;> rfl)) ?_)
    refine TL.cons rfl (V1.t (V1.mul (c := ((8 * (wd - 1 - j) : Nat) : Int)) rfl rfl (by rw [wrap_i64 _ (by omega) (by omega)]; omega)) ?_)
    refine TL.cons rfl (V1.t (V1.shrW (a := BitVec.ofNat 64 n) (k := 8 * (wd - 1 - j)) u64U (congrArg (fun z : Nat => Value.int .u64 (z : Int)) (show n = (BitVec.ofNat 64 n).toNat from by rw [BitVec.toNat_ofNat]; exact (Nat.mod_eq_of_lt hn).symm)) rfl) ?_)
    refine TL.cons rfl (V1.t (V1.convW 8 u8U ty_32 ty_5 rfl) ?_)
    refine TL.cons rfl (T1.buildSl1 (os := [.tmp 18]) (vs := [byteV (UInt8.ofNat (n / 256 ^ (wd - 1 - j)))]) ty_33 sz_5 zr_5 (by decide) rfl (.cons (congrArg (fun z : Nat => Value.int .u8 (z : Int)) (by rw [byte_shift, BitVec.toNat_ofNat, Nat.mod_eq_of_lt hn])) .nil) rfl (ones rfl) (fun b19 => ?_))
    refine TL.cons rfl (T1.append ty_33 kd_33 sz_5 by_5 zr_5 rfl (by decide) (by decide) rfl rfl hsl (.sl (n := 1) (RdN.at0 (cells := ([UInt8.ofNat (n / 256 ^ (wd - 1 - j))] : List UInt8).map byteV) (by repeat (first | exact Find.here | assumption | apply Find.there | apply Find.far))) rfl) (one_bytes [UInt8.ofNat (n / 256 ^ (wd - 1 - j))]) 200000000000000 (by simp only [List.length_map, List.length_singleton]; omega) (by omega) (by repeat (first | exact PickS.last | exact PickS.one | exact PickS.here | exact PickS.nil | apply PickS.there | apply PickS.far)) (fun s1 Ls1 hs1 => ?_))
    rw [← List.map_append] at hs1
    replace hs1 : Sl s1 (((dig n wd).take (j + 1)).map byteV) 1 Ls1 := by rw [List.take_add_one, dig_get n wd j hjw]; exact hs1
    refine TL.cons rfl (V1.t (V1.assign' (by (conv => lhs; whnf) <;> rfl)) ?_)
    refine TL.nil ?_
    refine T.region ?_
    refine TL.cons rfl (V1.t (V1.move' (by (conv => lhs; whnf) <;> rfl)) ?_)
    refine TL.cons rfl (V1.t (V1.sub (c := (wd : Int) - 1 - ((j + 1 : Nat) : Int)) rfl rfl (by rw [wrap_i64 _ (by omega) (by omega)]; omega)) ?_)
    refine TL.cons rfl (V1.t (V1.assign' (by (conv => lhs; whnf) <;> rfl)) ?_)
    refine TL.nil ?_
    exact ⟨(j + 1, _, Ls1), _, _, (by simp only; omega), (.cons rfl (.cons rfl .nil)), (.cons rfl .nil), (by repeat (first | exact Take.nil | apply Take.one (by repeat (first | exact Pick.here | apply Pick.there | apply Pick.far)) | apply Take.seg (by repeat (first | exact PickS.last | exact PickS.one | exact PickS.here | exact PickS.nil | apply PickS.there | apply PickS.far)) | exact Take.last (by repeat (first | exact PickS.last | exact PickS.one | exact PickS.here | exact PickS.nil | apply PickS.there | apply PickS.far)))), ⟨rfl, hs1, by simp only; omega⟩⟩
  ·
    simp only at h3
    obtain rfl : j = wd := by omega
    rw [List.take_of_length_le (by rw [dig_len]; exact Nat.le_refl _)] at hsl
    refine TL.nil ?_
    refine T.cond_f rfl ?_
    refine T.exit ?_
    refine T.seq ?_
    refine T.region ?_
    refine TL.cons rfl (V1.t (V1.move' (by (conv => lhs; whnf) <;> rfl)) ?_)
    refine TL.cons rfl (V1.t (V1.assign' (by (conv => lhs; whnf) <;> rfl)) ?_)
    refine TL.nil ?_
    refine T.ret ?_
    exact ⟨_, Ls ++ [], _, .cons (.tmp (by (conv => lhs; whnf) <;> rfl)) .nil, (by repeat (first | exact Take.nil | apply Take.one (by repeat (first | exact Pick.here | apply Pick.there | apply Pick.far)) | apply Take.seg (by repeat (first | exact PickS.last | exact PickS.one | exact PickS.here | exact PickS.nil | apply PickS.there | apply PickS.far)) | exact Take.last (by repeat (first | exact PickS.last | exact PickS.one | exact PickS.here | exact PickS.nil | apply PickS.there | apply PickS.far)))), by rw [List.append_nil]; exact hsl⟩

set_option maxRecDepth 100000 in
theorem room_any (w0 : World) (bd ba m : Nat) (pw : Int) (hm : m ≤ 1000000) : FnX P 20 [.pointer (some ⟨bd, 0, none⟩)] w0 [] [(⟨bd, 0, [.slice (some ⟨ba, 0, none⟩) m m, .int .i64 pw], 2⟩ : Blk)] (fun v Y => v = .int .i64 ((m / 2 : Nat) : Int) ∧ Y = [(⟨bd, 0, [.slice (some ⟨ba, 0, none⟩) m m, .int .i64 pw], 2⟩ : Blk)]) := by
  refine FnX.of 9 [.tmp 2] Go.Proofs.Try.func20 rfl rfl rfl rfl (fun G => ?_)
  simp only [List.cons_append, List.nil_append]
  refine T.seq ?_
  refine T.region ?_
  refine TL.cons rfl (V1.t (V1.assign' (by (conv => lhs; whnf) <;> rfl)) ?_)
  refine TL.nil ?_
  refine T.seq ?_
  refine T.region ?_
  refine TL.cons rfl (V1.t (V1.move' (by (conv => lhs; whnf) <;> rfl)) ?_)
  refine TL.cons rfl (V1.t (V1.nilCheck rfl) ?_)
  refine TL.cons rfl (V1.t (V1.fieldAddr fl_53_0 rfl) ?_)
  refine TL.cons rfl (V1.t (V1.load1 one_33 rfl (.own (cells := [.slice (some ⟨ba, 0, none⟩) m m, .int .i64 pw]) (by repeat (first | exact Find.here | assumption | apply Find.there | apply Find.far)) (by rfl))) ?_)
  refine TL.cons rfl (V1.t (V1.lenSl ty_33 rfl) ?_)
  refine TL.cons rfl (V1.t (V1.quo (c := ((m / 2 : Nat) : Int)) rfl rfl (by decide) (by rw [show ((m : Int).tdiv 2) = ((m / 2 : Nat) : Int) from (Int.ofNat_tdiv m 2).symm]; exact wrap_i64 _ (by omega) (by omega))) ?_)
  refine TL.cons rfl (V1.t (V1.assign' (by (conv => lhs; whnf) <;> rfl)) ?_)
  refine TL.nil ?_
  refine T.ret ?_
  exact ⟨_, (⟨bd, 0, [.slice (some ⟨ba, 0, none⟩) m m, .int .i64 pw], 2⟩ : Blk) :: G, _, .cons (.tmp (by (conv => lhs; whnf) <;> rfl)) .nil, (by repeat (first | exact Take.nil | apply Take.one (by repeat (first | exact Pick.here | apply Pick.there | apply Pick.far)) | apply Take.seg (by repeat (first | exact PickS.last | exact PickS.one | exact PickS.here | exact PickS.nil | apply PickS.there | apply PickS.far)) | exact Take.last (by repeat (first | exact PickS.last | exact PickS.one | exact PickS.here | exact PickS.nil | apply PickS.there | apply PickS.far)))), [(⟨bd, 0, [.slice (some ⟨ba, 0, none⟩) m m, .int .i64 pw], 2⟩ : Blk)], rfl, rfl, rfl⟩

set_option maxRecDepth 100000 in
theorem Bytes_any (w0 : World) (bd ba : Nat) (a : List UInt8) (pw : Int) (ha : a.length ≤ 1000000) : FnX P 16 [.pointer (some ⟨bd, 0, none⟩)] w0 [] [(⟨bd, 0, [.slice (some ⟨ba, 0, none⟩) a.length a.length, .int .i64 pw], 2⟩ : Blk), (⟨ba, 0, List.map byteV a, a.length⟩ : Blk)] (fun v Y => ∃ Ls, Y = Ls ++ [(⟨bd, 0, [.slice (some ⟨ba, 0, none⟩) a.length a.length, .int .i64 pw], 2⟩ : Blk), (⟨ba, 0, List.map byteV a, a.length⟩ : Blk)] ∧ Sl v (a.map byteV) 1 Ls) := by
  refine FnX.of 9 [.tmp 2] Go.Proofs.Try.func16 rfl rfl rfl rfl (fun G => ?_)
  simp only [List.cons_append, List.nil_append]
  refine T.seq ?_
  refine T.region ?_
  refine TL.cons rfl (V1.t (V1.assign' (by (conv => lhs; whnf) <;> rfl)) ?_)
  refine TL.nil ?_
  refine T.seq ?_
  refine T.region ?_
  refine TL.cons rfl (T1.buildSl1 (os := []) ty_33 sz_5 zr_5 (by decide) rfl .nil rfl (ones rfl) (fun b3 => ?_))
  refine TL.cons rfl (V1.t (V1.move' (by (conv => lhs; whnf) <;> rfl)) ?_)
  refine TL.cons rfl (V1.t (V1.nilCheck rfl) ?_)
  refine TL.cons rfl (V1.t (V1.fieldAddr fl_53_0 rfl) ?_)
  refine TL.cons rfl (V1.t (V1.load1 one_33 rfl (.own (cells := [.slice (some ⟨ba, 0, none⟩) a.length a.length, .int .i64 pw]) (by repeat (first | exact Find.here | assumption | apply Find.there | apply Find.far)) (by rfl))) ?_)
  refine TL.cons rfl (T1.append ty_33 kd_33 sz_5 by_5 zr_5 rfl (by decide) (by decide) rfl rfl (Sl.mk (b := b3) (xs := []) (len := 0) (cap := 0) (size := 0) rfl (Nat.le_refl _) (Nat.le_refl _)) (.sl (n := a.length) (RdN.at0 (cells := List.map byteV a) (by repeat (first | exact Find.here | assumption | apply Find.there | apply Find.far))) (by rw [List.length_map, Nat.mul_one])) (one_bytes _) 200000000000000 (by simp only [List.length_map, List.length_nil]; omega) (by omega) (by repeat (first | exact PickS.last | exact PickS.one | exact PickS.here | exact PickS.nil | apply PickS.there | apply PickS.far)) (fun s1 Ls1 hs1 => ?_))
  rw [List.nil_append] at hs1
  refine TL.cons rfl (V1.t (V1.assign' (by (conv => lhs; whnf) <;> rfl)) ?_)
  refine TL.nil ?_
  refine T.ret ?_
  exact ⟨_, Ls1 ++ ((⟨bd, 0, [.slice (some ⟨ba, 0, none⟩) a.length a.length, .int .i64 pw], 2⟩ : Blk) :: (⟨ba, 0, List.map byteV a, a.length⟩ : Blk) :: G), _, .cons (.tmp (by (conv => lhs; whnf) <;> rfl)) .nil, (by repeat (first | exact Take.nil | apply Take.one (by repeat (first | exact Pick.here | apply Pick.there | apply Pick.far)) | apply Take.seg (by repeat (first | exact PickS.last | exact PickS.one | exact PickS.here | exact PickS.nil | apply PickS.there | apply PickS.far)) | exact Take.last (by repeat (first | exact PickS.last | exact PickS.one | exact PickS.here | exact PickS.nil | apply PickS.there | apply PickS.far)))), Ls1 ++ [(⟨bd, 0, [.slice (some ⟨ba, 0, none⟩) a.length a.length, .int .i64 pw], 2⟩ : Blk), (⟨ba, 0, List.map byteV a, a.length⟩ : Blk)], by simp, _, rfl, hs1⟩

set_option maxRecDepth 100000 in
theorem Break_any (w0 : World) (bd ba m : Nat) (pw k : Int) : FnX P 13 [.pointer (some ⟨bd, 0, none⟩), .int .i64 k] w0 [] [(⟨bd, 0, [.slice (some ⟨ba, 0, none⟩) m m, .int .i64 pw], 2⟩ : Blk)] (fun _ Y => Y = [(⟨bd, 0, [.slice (some ⟨ba, 0, none⟩) m m, .int .i64 (max k (-1))], 2⟩ : Blk)]) := by
  refine FnX.of 9 [] Go.Proofs.Try.func13 rfl rfl rfl rfl (fun G => ?_)
  simp only [List.cons_append, List.nil_append]
  refine T.region ?_
  refine TL.cons rfl (V1.t (V1.move' (by (conv => lhs; whnf) <;> rfl)) ?_)
  refine TL.cons rfl (V1.t (V1.move' (by (conv => lhs; whnf) <;> rfl)) ?_)
  refine TL.cons rfl (V1.t (V1.max2 (c := max k (-1)) rfl rfl rfl) ?_)
  refine TL.cons rfl (V1.t (V1.nilCheck rfl) ?_)
  refine TL.cons rfl (V1.t (V1.fieldAddr fl_53_1 rfl) ?_)
  refine TL.cons rfl (T1.store1 (cells := [.slice (some ⟨ba, 0, none⟩) m m, .int .i64 pw]) (cells' := [.slice (some ⟨ba, 0, none⟩) m m, .int .i64 (max k (-1))]) (v := .int .i64 (max k (-1))) rfl rfl sz_3 rfl (by repeat (first | exact Sub.one | apply Sub.there | apply Sub.far)) (Nat.zero_le _) (by repeat (first | exact SetAt.here | apply SetAt.there)) ?_)
  refine TL.nil ?_
  -- the end
  exact ⟨_, (⟨bd, 0, [.slice (some ⟨ba, 0, none⟩) m m, .int .i64 (max k (-1))], 2⟩ : Blk) :: G, _, .nil, (by repeat (first | exact Take.nil | apply Take.one (by repeat (first | exact Pick.here | apply Pick.there | apply Pick.far)) | apply Take.seg (by repeat (first | exact PickS.last | exact PickS.one | exact PickS.here | exact PickS.nil | apply PickS.there | apply PickS.far)) | exact Take.last (by repeat (first | exact PickS.last | exact PickS.one | exact PickS.here | exact PickS.nil | apply PickS.there | apply PickS.far)))), [(⟨bd, 0, [.slice (some ⟨ba, 0, none⟩) m m, .int .i64 (max k (-1))], 2⟩ : Blk)], rfl, rfl⟩

set_option maxRecDepth 100000 in
theorem Mend_any (w0 : World) (bd ba m : Nat) (pw : Int) : FnX P 14 [.pointer (some ⟨bd, 0, none⟩)] w0 [] [(⟨bd, 0, [.slice (some ⟨ba, 0, none⟩) m m, .int .i64 pw], 2⟩ : Blk)] (fun _ Y => Y = [(⟨bd, 0, [.slice (some ⟨ba, 0, none⟩) m m, .int .i64 (-1)], 2⟩ : Blk)]) := by
  refine FnX.of 5 [] Go.Proofs.Try.func14 rfl rfl rfl rfl (fun G => ?_)
  simp only [List.cons_append, List.nil_append]
  refine T.region ?_
  refine TL.cons rfl (V1.t (V1.move' (by (conv => lhs; whnf) <;> rfl)) ?_)
  refine TL.cons rfl (V1.t (V1.nilCheck rfl) ?_)
  refine TL.cons rfl (V1.t (V1.fieldAddr fl_53_1 rfl) ?_)
  refine TL.cons rfl (T1.store1 (cells := [.slice (some ⟨ba, 0, none⟩) m m, .int .i64 pw]) (cells' := [.slice (some ⟨ba, 0, none⟩) m m, .int .i64 (-1)]) (v := .int .i64 (-1)) rfl rfl sz_3 rfl (by repeat (first | exact Sub.one | apply Sub.there | apply Sub.far)) (Nat.zero_le _) (by repeat (first | exact SetAt.here | apply SetAt.there)) ?_)
  refine TL.nil ?_
  -- the end
  exact ⟨_, (⟨bd, 0, [.slice (some ⟨ba, 0, none⟩) m m, .int .i64 (-1)], 2⟩ : Blk) :: G, _, .nil, (by repeat (first | exact Take.nil | apply Take.one (by repeat (first | exact Pick.here | apply Pick.there | apply Pick.far)) | apply Take.seg (by repeat (first | exact PickS.last | exact PickS.one | exact PickS.here | exact PickS.nil | apply PickS.there | apply PickS.far)) | exact Take.last (by repeat (first | exact PickS.last | exact PickS.one | exact PickS.here | exact PickS.nil | apply PickS.there | apply PickS.far)))), [(⟨bd, 0, [.slice (some ⟨ba, 0, none⟩) m m, .int .i64 (-1)], 2⟩ : Blk)], rfl, rfl⟩

set_option maxRecDepth 100000 in
theorem Poke_any (w0 : World) (bd ba : Nat) (a : List UInt8) (pw : Int) (i : Nat) (x : UInt8) (hi : i < a.length) : FnX P 17 [.pointer (some ⟨bd, 0, none⟩), .int .i64 (i : Int), byteV x] w0 [] [(⟨bd, 0, [.slice (some ⟨ba, 0, none⟩) a.length a.length, .int .i64 pw], 2⟩ : Blk), (⟨ba, 0, List.map byteV a, a.length⟩ : Blk)] (fun v Y => v = .int .i64 0 ∧ Y = [(⟨bd, 0, [.slice (some ⟨ba, 0, none⟩) a.length a.length, .int .i64 pw], 2⟩ : Blk), (⟨ba, 0, List.map byteV (a.set i x), a.length⟩ : Blk)]) := by
  refine FnX.of 25 [.tmp 6] Go.Proofs.Try.func17 rfl rfl rfl rfl (fun G => ?_)
  simp only [List.cons_append, List.nil_append]
  refine T.seq ?_
  refine T.region ?_
  refine TL.cons rfl (V1.t (V1.assign' (by (conv => lhs; whnf) <;> rfl)) ?_)
  refine TL.nil ?_
  refine T.seq ?_
  refine T.seq ?_
  refine T.region ?_
  refine TL.cons rfl (V1.t (V1.move' (by (conv => lhs; whnf) <;> rfl)) ?_)
  refine TL.cons rfl (V1.t (V1.ltI (r := false) rfl rfl (decide_eq_false (by omega))) ?_)
  refine TL.cons rfl (V1.t (V1.move' (by (conv => lhs; whnf) <;> rfl)) ?_)
  refine TL.cons rfl (V1.t (V1.move' (by (conv => lhs; whnf) <;> rfl)) ?_)
  refine TL.cons rfl (V1.t (V1.move' (by (conv => lhs; whnf) <;> rfl)) ?_)
  refine TL.cons rfl (V1.t (V1.nilCheck rfl) ?_)
  refine TL.cons rfl (V1.t (V1.fieldAddr fl_53_0 rfl) ?_)
  refine TL.cons rfl (V1.t (V1.load1 one_33 rfl (.own (cells := [.slice (some ⟨ba, 0, none⟩) a.length a.length, .int .i64 pw]) (by repeat (first | exact Find.here | assumption | apply Find.there | apply Find.far)) (by rfl))) ?_)
  refine TL.cons rfl (V1.t (V1.lenSl ty_33 rfl) ?_)
  refine TL.cons rfl (V1.t (V1.geI (r := false) rfl rfl (decide_eq_false (by omega))) ?_)
  refine TL.cons rfl (V1.t (V1.pick rfl (by (conv => lhs; whnf) <;> rfl)) ?_)
  refine TL.nil ?_
  refine T.cond_f rfl ?_
  refine T.skip ?_
  refine T.seq ?_
  refine T.region ?_
  refine TL.cons rfl (V1.t (V1.move' (by (conv => lhs; whnf) <;> rfl)) ?_)
  refine TL.cons rfl (V1.t (V1.nilCheck rfl) ?_)
  refine TL.cons rfl (V1.t (V1.fieldAddr fl_53_0 rfl) ?_)
  refine TL.cons rfl (V1.t (V1.load1 one_33 rfl (.own (cells := [.slice (some ⟨ba, 0, none⟩) a.length a.length, .int .i64 pw]) (by repeat (first | exact Find.here | assumption | apply Find.there | apply Find.far)) (by rfl))) ?_)
  refine TL.cons rfl (V1.t (V1.move' (by (conv => lhs; whnf) <;> rfl)) ?_)
  refine TL.cons rfl (V1.t (V1.move' (by (conv => lhs; whnf) <;> rfl)) ?_)
  refine TL.cons rfl (V1.t (V1.indexAddrS ty_33 sz_5 rfl rfl (by omega) (by omega)) ?_)
  refine TL.cons rfl (T1.storeE (o := 0 + i * 1) (cells := List.map byteV a) (cells' := List.map byteV (a.set i x)) (v := byteV x) rfl rfl sz_5 rfl (by rw [show 0 + i * 1 - 0 = i from by omega, List.map_set]) (by repeat (first | exact Sub.one | apply Sub.there | apply Sub.far)) (Nat.zero_le _) (by rw [List.length_map]; omega) ?_)
  refine TL.nil ?_
  refine T.seq ?_
  refine T.live (l := []) .nil (fun e_ => ?_)
  refine T.region ?_
  refine TL.cons rfl (V1.t (V1.assign' (by (conv => lhs; whnf) <;> rfl)) ?_)
  refine TL.nil ?_
  refine T.ret ?_
  exact ⟨_, (⟨bd, 0, [.slice (some ⟨ba, 0, none⟩) a.length a.length, .int .i64 pw], 2⟩ : Blk) :: (⟨ba, 0, List.map byteV (a.set i x), a.length⟩ : Blk) :: G, _, .cons (.tmp (by (conv => lhs; whnf) <;> rfl)) .nil, (by repeat (first | exact Take.nil | apply Take.one (by repeat (first | exact Pick.here | apply Pick.there | apply Pick.far)) | apply Take.seg (by repeat (first | exact PickS.last | exact PickS.one | exact PickS.here | exact PickS.nil | apply PickS.there | apply PickS.far)) | exact Take.last (by repeat (first | exact PickS.last | exact PickS.one | exact PickS.here | exact PickS.nil | apply PickS.there | apply PickS.far)))), [(⟨bd, 0, [.slice (some ⟨ba, 0, none⟩) a.length a.length, .int .i64 pw], 2⟩ : Blk), (⟨ba, 0, List.map byteV (a.set i x), a.length⟩ : Blk)], rfl, rfl, rfl⟩

set_option maxRecDepth 100000 in
theorem NewDisk_any (m : Nat) (w : World) (h1 : 64 ≤ m) (h2 : m ≤ 65536) : Fn P 8 [.int .i64 (m : Int)] w [] (fun v Y => ∃ bd ba, v = .tuple #[.pointer (some ⟨bd, 0, none⟩), .int .i64 0] ∧ Y = [(⟨bd, 0, [.slice (some ⟨ba, 0, none⟩) (2 * m) (2 * m), .int .i64 (-1)], 2⟩ : Blk), (⟨ba, 0, List.map byteV (List.replicate (2 * m) (0 : UInt8)), (2 * m)⟩ : Blk)]) := by
  refine Fn.of 15 [.tmp 2, .tmp 3] Go.Proofs.Try.func8 rfl rfl rfl rfl ?_
  refine T.seq ?_
  refine T.region ?_
  refine TL.cons rfl (V1.t (V1.assign' (by (conv => lhs; whnf) <;> rfl)) ?_)
  refine TL.cons rfl (V1.t (V1.assign' (by (conv => lhs; whnf) <;> rfl)) ?_)
  refine TL.nil ?_
  refine T.seq ?_
  refine T.seq ?_
  refine T.region ?_
  refine TL.cons rfl (V1.t (V1.move' (by (conv => lhs; whnf) <;> rfl)) ?_)
  refine TL.cons rfl (V1.t (V1.ltI (r := false) rfl rfl (decide_eq_false (by omega))) ?_)
  refine TL.cons rfl (V1.t (V1.move' (by (conv => lhs; whnf) <;> rfl)) ?_)
  refine TL.cons rfl (V1.t (V1.move' (by (conv => lhs; whnf) <;> rfl)) ?_)
  refine TL.cons rfl (V1.t (V1.gtI (r := false) rfl rfl (decide_eq_false (by omega))) ?_)
  refine TL.cons rfl (V1.t (V1.pick rfl (by (conv => lhs; whnf) <;> rfl)) ?_)
  refine TL.nil ?_
  refine T.cond_f rfl ?_
  refine T.skip ?_
  refine T.seq ?_
  refine T.region ?_
  refine TL.cons rfl (V1.t (V1.move' (by (conv => lhs; whnf) <;> rfl)) ?_)
  refine TL.cons rfl (V1.t (V1.mul (c := ((2 * m : Nat) : Int)) rfl rfl (by rw [wrap_i64 _ (by omega) (by omega)]; omega)) ?_)
  refine TL.cons rfl (T1.make1 (2 * m) (2 * m) ty_33 sz_5 by_5 zr_5 rfl rfl rfl (Nat.le_refl _) (by omega) (by omega) (fun ba => ?_))
  refine TL.cons rfl (V1.t (V1.buildF pl_53 zr_53 (.one rfl (by (conv => lhs; whnf) <;> rfl) rfl (.one rfl (by (conv => lhs; whnf) <;> rfl) rfl .nil)) (by repeat (first | exact FillL.nil | exact SetN.done | apply SetN.here | apply SetN.there | apply FillL.cons))) ?_)
  refine TL.cons rfl (T1.boxN (vs := [.slice (some ⟨ba, 0, none⟩) (2 * m) (2 * m), .int .i64 (-1)]) 2 rfl rfl (fun bd => ?_))
  refine TL.cons rfl (V1.t (V1.assign' (by (conv => lhs; whnf) <;> rfl)) ?_)
  refine TL.cons rfl (V1.t (V1.assign' (by (conv => lhs; whnf) <;> rfl)) ?_)
  refine TL.nil ?_
  refine T.ret ?_
  exact ⟨_, [(⟨bd, 0, [.slice (some ⟨ba, 0, none⟩) (2 * m) (2 * m), .int .i64 (-1)], 2⟩ : Blk), ⟨ba, 0, List.replicate (2 * m) (.int .u8 0), 2 * m⟩], _, .cons (.tmp (by (conv => lhs; whnf) <;> rfl)) (.cons (.tmp (by (conv => lhs; whnf) <;> rfl)) .nil), (by repeat (first | exact Take.nil | apply Take.one (by repeat (first | exact Pick.here | apply Pick.there | apply Pick.far)) | apply Take.seg (by repeat (first | exact PickS.last | exact PickS.one | exact PickS.here | exact PickS.nil | apply PickS.there | apply PickS.far)) | exact Take.last (by repeat (first | exact PickS.last | exact PickS.one | exact PickS.here | exact PickS.nil | apply PickS.there | apply PickS.far)))), bd, ba, rfl, by rw [List.map_replicate]; rfl⟩

set_option maxRecDepth 100000 in
theorem blank_any (w0 : World) (bd ba : Nat) (a : List UInt8) (pw : Int) (ha : a.length ≤ 1000000) : FnX P 19 [.pointer (some ⟨bd, 0, none⟩)] w0 [] [(⟨bd, 0, [.slice (some ⟨ba, 0, none⟩) a.length a.length, .int .i64 pw], 2⟩ : Blk), (⟨ba, 0, List.map byteV a, a.length⟩ : Blk)] (fun v Y => v = .bool (decide (∀ y ∈ a, y = 0)) ∧ Y = [(⟨bd, 0, [.slice (some ⟨ba, 0, none⟩) a.length a.length, .int .i64 pw], 2⟩ : Blk), (⟨ba, 0, List.map byteV a, a.length⟩ : Blk)]) := by
  refine FnX.of 21 [.tmp 2] Go.Proofs.Try.func19 rfl rfl rfl rfl (fun G => ?_)
  simp only [List.cons_append, List.nil_append]
  refine T.seq ?_
  refine T.region ?_
  refine TL.cons rfl (V1.t (V1.assign' (by (conv => lhs; whnf) <;> rfl)) ?_)
  refine TL.nil ?_
  refine T.seq ?_
  refine T.region ?_
  refine TL.cons rfl (V1.t (V1.assign' (v := .int .u8 ((0#8).toNat : Int)) rfl) ?_)
  refine TL.nil ?_
  refine T.seq ?_
  refine T.seq ?_
  refine T.region ?_
  refine TL.cons rfl (V1.t (V1.move' (by (conv => lhs; whnf) <;> rfl)) ?_)
  refine TL.cons rfl (V1.t (V1.nilCheck rfl) ?_)
  refine TL.cons rfl (V1.t (V1.fieldAddr fl_53_0 rfl) ?_)
  refine TL.cons rfl (V1.t (V1.load1 one_33 rfl (.own (cells := [.slice (some ⟨ba, 0, none⟩) a.length a.length, .int .i64 pw]) (by repeat (first | exact Find.here | assumption | apply Find.there | apply Find.far)) (by rfl))) ?_)
  refine TL.cons rfl (V1.t (V1.lenSl ty_33 rfl) ?_)
  refine TL.cons rfl (V1.t (V1.move' (by (conv => lhs; whnf) <;> rfl)) ?_)
  refine TL.nil ?_
  refine T.block ?_
  refine T.loopL (σ := Nat × BitVec 8) (l0 := [(9, _), (10, _)]) (fun x => [(11, .int .i64 (x.1 : Nat)), (3, .int .u8 (x.2.toNat : Int))]) (fun x L => L = (⟨bd, 0, [.slice (some ⟨ba, 0, none⟩) a.length a.length, .int .i64 pw], 2⟩ : Blk) :: (⟨ba, 0, List.map byteV a, a.length⟩ : Blk) :: G ∧ (x.2 = 0#8 ↔ ∀ y ∈ a.take x.1, y = 0) ∧ x.1 ≤ a.length) (fun x => a.length - x.1) (0, 0#8) (.cons rfl (.cons rfl .nil)) (.cons (by (conv => lhs; whnf) <;> rfl) (.cons (by (conv => lhs; whnf) <;> rfl) .nil)) (by repeat (first | exact Take.nil | apply Take.one (by repeat (first | exact Pick.here | apply Pick.there | apply Pick.far)) | apply Take.seg (by repeat (first | exact PickS.last | exact PickS.one | exact PickS.here | exact PickS.nil | apply PickS.there | apply PickS.far)) | exact Take.last (by repeat (first | exact PickS.last | exact PickS.one | exact PickS.here | exact PickS.nil | apply PickS.there | apply PickS.far)))) (⟨rfl, by simp, Nat.zero_le _⟩) ?_
  rintro ⟨k, z⟩ e_ L ⟨rfl, hz, hk⟩
  simp only at hz hk
  refine T.seq ?_
  refine T.region ?_
  refine TL.cons rfl (T1.ltI_split rfl rfl (fun h3 => ?_) (fun h3 => ?_))
  ·
    simp only at h3
    obtain ⟨x, hx⟩ : ∃ x, a[k]? = some x := ⟨_, List.getElem?_eq_getElem (by omega)⟩
    refine TL.nil ?_
    refine T.seq ?_
    refine T.cond_t rfl ?_
    refine T.skip ?_
    refine T.seq ?_
    refine T.block ?_
    refine T.seq ?_
    refine T.region ?_
    refine TL.cons rfl (V1.t (V1.indexAddrS ty_33 sz_5 rfl rfl (by omega) (by omega)) ?_)
    refine TL.cons rfl (V1.t (V1.load1 one_5 rfl (show Rd _ _ ⟨ba, 0 + k * 1, none⟩ (byteV x) from by rw [Nat.mul_one]; exact Rd.at (cells := List.map byteV a) (by repeat (first | exact Find.here | assumption | apply Find.there | apply Find.far)) (by rw [List.getElem?_map, hx]; rfl))) ?_)
    refine TL.cons rfl (V1.t (V1.assign' (by (conv => lhs; whnf) <;> rfl)) ?_)
    refine TL.nil ?_
    refine T.region ?_
    refine TL.cons rfl (V1.t (V1.move' (by (conv => lhs; whnf) <;> rfl)) ?_)
    refine TL.cons rfl (V1.t (V1.move' (by (conv => lhs; whnf) <;> rfl)) ?_)
    refine TL.cons rfl (V1.t (V1.orW (a := z) (b := x.toBitVec) u8U rfl rfl) ?_)
    refine TL.cons rfl (V1.t (V1.assign' (by (conv => lhs; whnf) <;> rfl)) ?_)
    refine TL.nil ?_
    refine T.region ?_
    refine TL.cons rfl (V1.t (V1.add rfl rfl (wrap_i64 _ (by omega) (by omega))) ?_)
    refine TL.cons rfl (V1.t (V1.move' (by (conv => lhs; whnf) <;> rfl)) ?_)
    refine TL.nil ?_
    exact ⟨(k + 1, z ||| x.toBitVec), _, _, (by simp only; omega), (.cons rfl (.cons rfl .nil)), (.cons rfl (.cons rfl .nil)), (by repeat (first | exact Take.nil | apply Take.one (by repeat (first | exact Pick.here | apply Pick.there | apply Pick.far)) | apply Take.seg (by repeat (first | exact PickS.last | exact PickS.one | exact PickS.here | exact PickS.nil | apply PickS.there | apply PickS.far)) | exact Take.last (by repeat (first | exact PickS.last | exact PickS.one | exact PickS.here | exact PickS.nil | apply PickS.there | apply PickS.far)))), ⟨rfl, by simp only; rw [bz_or, hz, all_take hx], by simp only; omega⟩⟩
  ·
    simp only at h3
    obtain rfl : k = a.length := by omega
    rw [List.take_length] at hz
    refine TL.nil ?_
    refine T.seq ?_
    refine T.cond_f rfl ?_
    refine T.exit ?_
    refine T.seq ?_
    refine T.region ?_
    refine TL.cons rfl (V1.t (V1.move' (by (conv => lhs; whnf) <;> rfl)) ?_)
    refine TL.cons rfl (V1.t (V1.eqI (r := decide (∀ y ∈ a, y = 0)) rfl rfl (by rw [decide_eq_decide, ← hz]; exact ⟨fun h => BitVec.eq_of_toNat_eq (by have h' : (z.toNat : Int) = 0 := h; show z.toNat = 0; omega), fun h => by rw [h]; rfl⟩)) ?_)
    refine TL.cons rfl (V1.t (V1.assign' (by (conv => lhs; whnf) <;> rfl)) ?_)
    refine TL.nil ?_
    refine T.ret ?_
    exact ⟨_, (⟨bd, 0, [.slice (some ⟨ba, 0, none⟩) a.length a.length, .int .i64 pw], 2⟩ : Blk) :: (⟨ba, 0, List.map byteV a, a.length⟩ : Blk) :: G, _, .cons (.tmp (by (conv => lhs; whnf) <;> rfl)) .nil, (by repeat (first | exact Take.nil | apply Take.one (by repeat (first | exact Pick.here | apply Pick.there | apply Pick.far)) | apply Take.seg (by repeat (first | exact PickS.last | exact PickS.one | exact PickS.here | exact PickS.nil | apply PickS.there | apply PickS.far)) | exact Take.last (by repeat (first | exact PickS.last | exact PickS.one | exact PickS.here | exact PickS.nil | apply PickS.there | apply PickS.far)))), [(⟨bd, 0, [.slice (some ⟨ba, 0, none⟩) a.length a.length, .int .i64 pw], 2⟩ : Blk), (⟨ba, 0, List.map byteV a, a.length⟩ : Blk)], rfl, rfl, rfl⟩

end Go.Proofs.Ytmolpgnekcfimaa.S
