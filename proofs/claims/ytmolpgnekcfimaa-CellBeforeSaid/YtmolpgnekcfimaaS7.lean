/- The document's SHA-256. -/
import Derived.Test.YtmolpgnekcfimaaS6
namespace Go.Proofs.Ytmolpgnekcfimaa.S
open Go.RowKit

open Sh
theorem cntA {N : BitVec 64} {n : Nat} (h : N.toNat = n) : ((N % 32#64 * 8#64).setWidth 8).toNat = (UInt8.ofNat (8 * n / 256 ^ 0)).toNat := by
  rw [BitVec.toNat_setWidth, BitVec.toNat_mul, BitVec.toNat_umod, UInt8.toNat_ofNat', h, show (32#64).toNat = 32 from rfl, show (8#64).toNat = 8 from rfl]
  simp only [Nat.pow_zero, Nat.div_one]; omega
theorem cntB {N : BitVec 64} {n j : Nat} (h : N.toNat = n / 32 / 256 ^ j) : ((N % 256#64).setWidth 8).toNat = (UInt8.ofNat (8 * n / 256 ^ (j + 1))).toNat := by
  rw [BitVec.toNat_setWidth, BitVec.toNat_umod, UInt8.toNat_ofNat', show (2 : Nat) ^ 8 = 256 from rfl, cnt_ref, h, show (256#64).toNat = 256 from rfl]
  omega
theorem cnt_set {k m i : Nat} {z : Value} (h : i < k) : (List.replicate (i + 1) z ++ ((beBytes k m).drop (i + 1)).map byteV).set i (byteV (UInt8.ofNat (m / 256 ^ (k - 1 - i)))) = List.replicate i z ++ ((beBytes k m).drop i).map byteV := by
  have hl : i < (beBytes k m).length := by rw [beBytes_len]; exact h
  rw [List.replicate_succ', List.append_assoc, List.set_append_right _ _ (by simp), List.length_replicate, Nat.sub_self, List.drop_eq_getElem_cons hl]
  have he : (beBytes k m)[i] = UInt8.ofNat (m / 256 ^ (k - 1 - i)) := Option.some.inj ((List.getElem?_eq_getElem hl).symm.trans (beBytes_get h))
  rw [he]; rfl
theorem padTo_end {w n : Nat} : padTo w n (zmax w n) 0 ++ beBytes (w / 4) (8 * n) = pad w n := by
  rw [← padTo_pad]
  unfold padTo
  rw [List.take_zero, List.append_nil, List.cons_append, List.take_of_length_le (by rw [beBytes_len]; exact Nat.le_refl _)]
theorem rep_open {z : Value} {m i : Nat} (h : i < m) (A : List Value) : A ++ List.replicate (m - i) z = A ++ z :: List.replicate (m - (i + 1)) z := by
  rw [show m - i = (m - (i + 1)) + 1 from by omega, List.replicate_succ]
theorem rep_set {α : Type} {A : List α} {f : α → Value} {v : α} {z : Value} {m i : Nat} (hl : A.length = i) (h : i < m) : (A.map f ++ List.replicate (m - i) z).set i (f v) = (A ++ [v]).map f ++ List.replicate (m - (i + 1)) z := by
  rw [rep_open h, List.set_append_right _ _ (by rw [List.length_map]; omega), List.length_map, hl, Nat.sub_self, List.set_cons_zero, List.map_append, List.append_assoc]; rfl
theorem snoc_cells {α : Type} (A : List α) (f : α → Value) (v : α) (Z : List Value) : A.map f ++ f v :: Z = (A ++ [v]).map f ++ Z := by rw [List.map_append, List.append_assoc]; rfl
theorem wstep {bs : List UInt8} {X : BitVec 64} {c : Nat} (h : X.toNat = wordN (bs.take c)) (hc : c < bs.length) (hb : bs.length ≤ 8) : (X * 256#64 + (bs.getD c 0).toBitVec.setWidth 64).toNat = wordN (bs.take (c + 1)) := by
  have hlt := wordN_lt (bs.take c)
  have hle : (256 : Nat) ^ (bs.take c).length ≤ 256 ^ 7 := Nat.pow_le_pow_right (by omega) (by rw [List.length_take]; omega)
  have hB := (bs.getD c 0).toNat_lt
  rw [List.take_add_one, getD_some hc, show (bs.take c ++ (some (bs.getD c 0)).toList) = bs.take c ++ [bs.getD c 0] from rfl, wordN_snoc, BitVec.toNat_add, BitVec.toNat_mul, BitVec.toNat_setWidth, h, show (bs.getD c 0).toBitVec.toNat = (bs.getD c 0).toNat from rfl]
  simp only [BitVec.toNat_ofNat]; omega
theorem up_snoc {w : Nat} {LS : List (BitVec 64)} {WW : List (BitVec w)} {i : Nat} {v : BitVec 64} (hl : LS.length = i) (h : ∀ j, j < i → Up (LS.getD j 0) (WW.getD j 0)) (hv : Up v (WW.getD i 0)) : ∀ j, j < i + 1 → Up ((LS ++ [v]).getD j 0) (WW.getD j 0) := by
  intro j hj
  rcases Nat.lt_or_ge j i with h' | h'
  · rw [List.getD_eq_getElem?_getD, List.getElem?_append_left (by omega), ← List.getD_eq_getElem?_getD]; exact h j h'
  · obtain rfl : j = i := by omega
    rw [List.getD_eq_getElem?_getD, List.getElem?_append_right (by omega), hl, Nat.sub_self]; exact hv
theorem getD_get {α : Type} {l : List α} {i : Nat} (d : α) (h : i < l.length) : l[i]? = some (l.getD i d) := by
  rw [List.getD_eq_getElem?_getD, List.getElem?_eq_getElem h]; rfl
def upInit {w : Nat} (s : R8 w) : R8 64 := ⟨s.a.setWidth 64, s.b.setWidth 64, s.c.setWidth 64, s.d.setWidth 64, s.e.setWidth 64, s.f.setWidth 64, s.g.setWidth 64, s.h.setWidth 64⟩
theorem up_set {w : Nat} (hw : w ≤ 64) (x : BitVec w) : Up (x.setWidth 64) x := by
  unfold Up
  rw [BitVec.toNat_setWidth]
  exact Nat.mod_eq_of_lt (Nat.lt_of_lt_of_le x.isLt (Nat.pow_le_pow_right (by omega) hw))
theorem upInit_up {w : Nat} (hw : w ≤ 64) (s : R8 w) : UpR (upInit s) s := ⟨up_set hw _, up_set hw _, up_set hw _, up_set hw _, up_set hw _, up_set hw _, up_set hw _, up_set hw _⟩
def addK (w : Nat) (s v : R8 64) : R8 64 := ⟨keepR w (s.a + v.a), keepR w (s.b + v.b), keepR w (s.c + v.c), keepR w (s.d + v.d), keepR w (s.e + v.e), keepR w (s.f + v.f), keepR w (s.g + v.g), keepR w (s.h + v.h)⟩
theorem addK_get (w : Nat) (s v : R8 64) {i : Nat} (h : i < 8) : (stL (addK w s v)).getD i 0 = keepR w ((stL s).getD i 0 + (stL v).getD i 0) := by
  match i, h with
  | 0, _ | 1, _ | 2, _ | 3, _ | 4, _ | 5, _ | 6, _ | 7, _ => rfl
theorem addK_up {w : Nat} (hw : w ≤ 64) {S V : R8 64} {s v : R8 w} (h : UpR S s) (g : UpR V v) : UpR (addK w S V) (addR s v) :=
  ⟨(h.a.md.add hw g.a.md).keep hw, (h.b.md.add hw g.b.md).keep hw, (h.c.md.add hw g.c.md).keep hw, (h.d.md.add hw g.d.md).keep hw, (h.e.md.add hw g.e.md).keep hw, (h.f.md.add hw g.f.md).keep hw, (h.g.md.add hw g.g.md).keep hw, (h.h.md.add hw g.h.md).keep hw⟩
theorem upR_get {w : Nat} {S : R8 64} {s : R8 w} (h : UpR S s) {i : Nat} (hi : i < 8) : Up ((stL S).getD i 0) ((stL s).getD i 0) := by
  match i, hi with
  | 0, _ => exact h.a
  | 1, _ => exact h.b
  | 2, _ => exact h.c
  | 3, _ => exact h.d
  | 4, _ => exact h.e
  | 5, _ => exact h.f
  | 6, _ => exact h.g
  | 7, _ => exact h.h
theorem st64 {st : R8 64} {i : Nat} (h : i < 8) : ((stL st).map w64)[i]? = some (w64 ((stL st).getD i 0)) := by
  rw [List.getElem?_map, getD_get 0 (show i < (stL st).length from h)]; rfl
theorem pad_pos (w n : Nat) : 0 < (pad w n).length := by unfold pad; simp
theorem piece_get {l : List UInt8} {p q c m k : Nat} (h1 : q + c < m) (h2 : c < k) (h3 : p + m ≤ l.length) : (l.map byteV)[p + q + c]? = some (byteV (((((l.drop p).take m).drop q).take k).getD c 0)) := by
  rw [List.getElem?_map, List.getD_eq_getElem?_getD, List.getElem?_take_of_lt h2, List.getElem?_drop, List.getElem?_take_of_lt h1, List.getElem?_drop, Nat.add_assoc, List.getElem?_eq_getElem (by omega)]; rfl
theorem out_take {w : Nat} {s : R8 w} {i x : Nat} (h : i < 8 * (w / 8)) (hx : (outB s)[i]? = some (UInt8.ofNat x)) : (outB s).take i ++ [UInt8.ofNat x] = (outB s).take (i + 1) := by
  rw [List.take_add_one, hx]; rfl

theorem up_k32 (i : Nat) : Up (Sh.table.getD i 0 / pw 32) (T256.ks i) := by
  unfold Up
  show _ = (((Sh.table.getD i 0) >>> 32).setWidth 32).toNat
  have h := (Sh.table.getD i 0).isLt
  rw [BitVec.toNat_udiv, pw_nat (by omega), BitVec.toNat_setWidth, BitVec.toNat_ushiftRight, Nat.shiftRight_eq_div_pow, Nat.mod_eq_of_lt]
  omega

theorem ls_get {LS : List (BitVec 64)} {Z : List Value} {j : Nat} (h : j < LS.length) : (LS.map w64 ++ Z)[j]? = some (w64 (LS.getD j 0)) := by
  rw [List.getElem?_append_left (by rw [List.length_map]; exact h), List.getElem?_map, getD_get 0 h]; rfl
theorem at_get {α : Type} {A Z : List α} {x : α} {i : Nat} (h : A.length = i) : (A ++ x :: Z)[i]? = some x := by subst h; simp
theorem at_set {α : Type} {A Z : List α} {x y : α} {i : Nat} (h : A.length = i) : (A ++ x :: Z).set i y = A ++ y :: Z := by subst h; simp

theorem out_at32 {s : R8 32} {i c : Nat} (hi : i < 8) (hc : c < 4) : (outB s)[4 * i + 4 - (c + 1)]? = some (UInt8.ofNat (((stL s).getD i 0).toNat / 256 ^ c)) := by
  rw [outB_get (by decide) (by omega)]
  simp only [show 32 / 8 = 4 from rfl]
  rw [show (4 * i + 4 - (c + 1)) / 4 = i from by omega, show 4 - 1 - (4 * i + 4 - (c + 1)) % 4 = c from by omega]

set_option maxRecDepth 100000 in
set_option maxHeartbeats 8000000 in
theorem refsum32_any (w0 : World) (bs : Nat) (l : List UInt8) (hl0 : l.length ≤ 200000000000000) : FnX P 39 [.string (bstr l), .agg (List.toArray [.int .i64 32, .int .i64 64, .int .i64 64, .slice (some ⟨bs, 0, none⟩) 8 8, .int .i64 7, .int .i64 18, .int .i64 3, .int .i64 17, .int .i64 19, .int .i64 10, .int .i64 2, .int .i64 13, .int .i64 22, .int .i64 6, .int .i64 11, .int .i64 25])] w0 [] [⟨bs, 0, (stL (upInit T256.init)).map w64, 8⟩] (fun v Y => ∃ Lr, Sl v ((sha T256 l).map byteV) 1 Lr ∧ Y = Lr ++ [⟨bs, 0, (stL (upInit T256.init)).map w64, 8⟩]) := by
  refine FnX.of 399 [.tmp 4] Go.Proofs.Try.func39 rfl rfl rfl rfl (fun G => ?_)
  refine T.seq ?_
  refine T.region ?_
  refine TL.cons rfl (T1.boxN 16 rfl rfl (fun b3 => ?_))
  refine TL.cons rfl (V1.t (V1.assign' (by (conv => lhs; whnf) <;> rfl)) ?_)
  refine TL.nil ?_
  refine T.seq ?_
  refine T.region ?_
  refine TL.cons rfl (V1.t (V1.fieldAddr fl_96_0 rfl) ?_)
  refine TL.cons rfl (V1.t (V1.load1 one_3 rfl (.own (by repeat (first | exact Find.here | assumption | apply Find.there | apply Find.far)) (by rfl))) ?_)
  refine TL.cons rfl (V1.t (V1.quo (c := 4) rfl rfl (by decide) (by decide)) ?_)
  refine TL.cons rfl (V1.t (V1.assign' (by (conv => lhs; whnf) <;> rfl)) ?_)
  refine TL.nil ?_
  refine T.seq ?_
  refine T.region ?_
  refine TL.cons rfl (V1.t (V1.move' (by (conv => lhs; whnf) <;> rfl)) ?_)
  refine TL.cons rfl (T1.strToBytes ty_9 ty_33 ty_5 rfl (fun b37 c37 hc37 => ?_))
  replace hc37 : l.length ≤ c37 := hc37
  refine TL.cons rfl (T1.buildSl1 (os := [.const (.int .u8 128)]) ty_33 sz_5 zr_5 (by decide) rfl (.cons (by (conv => lhs; whnf) <;> rfl) .nil) rfl (ones rfl) (fun b38 => ?_))
  refine TL.cons rfl (T1.append ty_33 kd_33 sz_5 by_5 zr_5 rfl (by decide) (by decide) rfl rfl (.inr ⟨b37, 0, l.length, c37, c37, rfl, (by rw [List.length_map, Nat.mul_one]), hc37, by omega, rfl⟩ : Sl _ (l.map byteV) 1 [⟨b37, 0, l.map byteV, c37⟩]) (.sl (n := 1) (RdN.at0 (cells := [byteV 128]) (by repeat (first | exact Find.here | assumption | apply Find.there | apply Find.far))) rfl) (one_bytes [128]) 200000000002000 (by simp only [List.length_map, List.length_cons, List.length_nil]; omega) (by omega) (by repeat (first | exact PickS.last | exact PickS.one | exact PickS.here | exact PickS.nil | apply PickS.there | apply PickS.far)) (fun s1 Lss1 hs1 => ?_))
  rw [show l.map byteV ++ [byteV 128] = (l ++ padTo 32 l.length (0) 0).map byteV from by rw [List.map_append]; rfl] at hs1
  refine TL.cons rfl (V1.t (V1.assign' (by (conv => lhs; whnf) <;> rfl)) ?_)
  refine TL.nil ?_
  refine T.seq ?_
  refine T.block ?_
  refine T.loopL (σ := Value × Nat × List Blk) (l0 := [(0, _), (3, _), (5, _)]) (fun x => [(6, x.1)]) (fun x L => L = x.2.2 ++ (⟨b3, 0, [.int .i64 32, .int .i64 64, .int .i64 64, .slice (some ⟨bs, 0, none⟩) 8 8, .int .i64 7, .int .i64 18, .int .i64 3, .int .i64 17, .int .i64 19, .int .i64 10, .int .i64 2, .int .i64 13, .int .i64 22, .int .i64 6, .int .i64 11, .int .i64 25], 16⟩ :: ⟨bs, 0, (stL (upInit T256.init)).map w64, 8⟩ :: G) ∧ Sl x.1 ((l ++ padTo 32 l.length (x.2.1) 0).map byteV) 1 x.2.2 ∧ x.2.1 ≤ zmax 32 l.length) (fun x => zmax 32 l.length - x.2.1) (s1, 0, Lss1) (.cons rfl .nil) (.cons (by (conv => lhs; whnf) <;> rfl) (.cons (by (conv => lhs; whnf) <;> rfl) (.cons (by (conv => lhs; whnf) <;> rfl) .nil))) (by repeat (first | exact Take.nil | apply Take.one (by repeat (first | exact Pick.here | apply Pick.there | apply Pick.far)) | apply Take.seg (by repeat (first | exact PickS.last | exact PickS.one | exact PickS.here | exact PickS.nil | apply PickS.there | apply PickS.far)) | exact Take.last (by repeat (first | exact PickS.last | exact PickS.one | exact PickS.here | exact PickS.nil | apply PickS.there | apply PickS.far)))) (⟨rfl, hs1, Nat.zero_le _⟩) ?_
  rintro ⟨si, z, Li⟩ e_ L ⟨rfl, hsi, hz⟩
  simp only at hsi hz
  obtain ⟨sa, sc, rfl⟩ := hsi.form1
  have hpl0 : (l ++ padTo 32 l.length (z) 0).length = l.length + (1 + z) := by rw [List.length_append, padTo_len (Nat.zero_le _), Nat.add_zero]
  have hzm := zmax_lt (w := 32) l.length (by decide)
  refine T.seq ?_
  refine T.seq ?_
  refine T.region ?_
  refine TL.cons rfl (V1.t (V1.move' (by (conv => lhs; whnf) <;> rfl)) ?_)
  refine TL.cons rfl (V1.t (V1.lenSl ty_33 rfl) ?_)
  refine TL.cons rfl (V1.t (V1.move' (by (conv => lhs; whnf) <;> rfl)) ?_)
  refine TL.cons rfl (V1.t (V1.mul (c := 8) rfl rfl (by decide)) ?_)
  refine TL.cons rfl (V1.t (V1.add rfl rfl (wrap_i64 _ (by omega) (by omega))) ?_)
  refine TL.cons rfl (V1.t (V1.fieldAddr fl_96_2 rfl) ?_)
  refine TL.cons rfl (V1.t (V1.load1 one_3 rfl (.own (by repeat (first | exact Find.here | assumption | apply Find.there | apply Find.far)) (by rfl))) ?_)
  refine TL.cons rfl (V1.t (V1.rem (c := (((l.length + (1 + z) + 8) % 64 : Nat) : Int)) rfl rfl (by omega) (by rw [hpl0, show ((l.length + (1 + z) : Nat) : Int) + 8 = ((l.length + (1 + z) + 8 : Nat) : Int) from by omega]; exact tmodN _ 64)) ?_)
  refine TL.cons rfl (T1.neI_split rfl rfl (fun h3_8 => ?_) (fun h3_8 => ?_))
  ·
    have hz2 : z < zmax 32 l.length := by
      unfold zmax at hz ⊢
      omega
    refine TL.nil ?_
    refine T.cond_t rfl ?_
    refine T.skip ?_
    refine T.block ?_
    refine T.region ?_
    refine TL.cons rfl (V1.t (V1.move' (by (conv => lhs; whnf) <;> rfl)) ?_)
    refine TL.cons rfl (T1.buildSl1 (os := [.const (.int .u8 0)]) ty_33 sz_5 zr_5 (by decide) rfl (.cons (by (conv => lhs; whnf) <;> rfl) .nil) rfl (ones rfl) (fun b50 => ?_))
    refine TL.cons rfl (T1.append ty_33 kd_33 sz_5 by_5 zr_5 rfl (by decide) (by decide) rfl rfl hsi (.sl (n := 1) (RdN.at0 (cells := [byteV 0]) (by repeat (first | exact Find.here | assumption | apply Find.there | apply Find.far))) rfl) (one_bytes [0]) 200000000002000 (by simp only [List.length_map, List.length_cons, List.length_nil]; omega) (by omega) (by repeat (first | exact PickS.last | exact PickS.one | exact PickS.here | exact PickS.nil | apply PickS.there | apply PickS.far)) (fun s2 Lss2 hs2 => ?_))
    rw [show [byteV 0] = ([0] : List UInt8).map byteV from rfl, ← List.map_append, List.append_assoc, padTo_z] at hs2
    refine TL.cons rfl (V1.t (V1.assign' (by (conv => lhs; whnf) <;> rfl)) ?_)
    refine TL.nil ?_
    exact ⟨(s2, z + 1, Lss2), _, _, (by simp only; omega), (.cons rfl .nil), (.cons rfl (.cons rfl (.cons rfl .nil))), (by repeat (first | exact Take.nil | apply Take.one (by repeat (first | exact Pick.here | apply Pick.there | apply Pick.far)) | apply Take.seg (by repeat (first | exact PickS.last | exact PickS.one | exact PickS.here | exact PickS.nil | apply PickS.there | apply PickS.far)) | exact Take.last (by repeat (first | exact PickS.last | exact PickS.one | exact PickS.here | exact PickS.nil | apply PickS.there | apply PickS.far)))), ⟨rfl, hs2, by simp only; omega⟩⟩
  ·
    have hz2 : z = zmax 32 l.length := by
      unfold zmax at hz ⊢
      omega
    subst hz2
    refine TL.nil ?_
    refine T.cond_f rfl ?_
    refine T.exit ?_
    refine T.seq ?_
    refine T.region ?_
    refine TL.cons rfl (V1.t (V1.move' (by (conv => lhs; whnf) <;> rfl)) ?_)
    refine TL.cons rfl (V1.t (V1.mul (c := 8) rfl rfl (by decide)) ?_)
    refine TL.cons rfl (T1.make1 8 8 ty_33 sz_5 by_5 zr_5 rfl rfl rfl (Nat.le_refl _) (by decide) (by decide) (fun b54 => ?_))
    refine TL.cons rfl (V1.t (V1.assign' (by (conv => lhs; whnf) <;> rfl)) ?_)
    refine TL.nil ?_
    refine T.seq ?_
    refine T.region ?_
    refine TL.cons rfl (V1.t (V1.move' (by (conv => lhs; whnf) <;> rfl)) ?_)
    refine TL.cons rfl (V1.t (V1.lenS ty_9 rfl) ?_)
    refine TL.cons rfl (V1.t (V1.convI 64 u64U ty_3 ty_32 rfl) ?_)
    refine TL.cons rfl (V1.t (V1.assign' (by (conv => lhs; whnf) <;> rfl)) ?_)
    refine TL.nil ?_
    refine T.seq ?_
    refine T.seq ?_
    refine T.live (l := [(3, _), (5, _), (6, _), (7, _), (8, _)]) (.cons (by (conv => lhs; whnf) <;> rfl) (.cons (by (conv => lhs; whnf) <;> rfl) (.cons (by (conv => lhs; whnf) <;> rfl) (.cons (by (conv => lhs; whnf) <;> rfl) (.cons (by (conv => lhs; whnf) <;> rfl) .nil))))) (fun e_ => ?_)
    refine T.region ?_
    refine TL.cons rfl (V1.t (V1.move' (by (conv => lhs; whnf) <;> rfl)) ?_)
    refine TL.cons rfl (V1.t (V1.mul (c := 8) rfl rfl (by decide)) ?_)
    refine TL.cons rfl (V1.t (V1.sub (c := ((8 : Nat) : Int) - 1) rfl rfl (by decide)) ?_)
    refine TL.cons rfl (V1.t (V1.assign' (by (conv => lhs; whnf) <;> rfl)) ?_)
    refine TL.nil ?_
    refine T.block ?_
    rw [show (⟨b54, 0, List.replicate 8 (.int .u8 0), 8⟩ : Blk) = ⟨b54, 0, List.replicate (8) (.int .u8 0) ++ ((beBytes 8 (8 * l.length)).drop (8)).map byteV, 8⟩ from by rw [List.drop_of_length_le (by rw [beBytes_len]; exact Nat.le_refl _)]; rfl]
    refine T.loopL (σ := Nat × BitVec 64) (l0 := [(3, _), (5, _), (6, _), (7, _)]) (fun x => [(9, .int .i64 ((x.1 : Int) - 1)), (8, w64 x.2)]) (fun x L => L = ⟨b54, 0, List.replicate (x.1) (.int .u8 0) ++ ((beBytes 8 (8 * l.length)).drop (x.1)).map byteV, 8⟩ :: (Li ++ (⟨b3, 0, [.int .i64 32, .int .i64 64, .int .i64 64, .slice (some ⟨bs, 0, none⟩) 8 8, .int .i64 7, .int .i64 18, .int .i64 3, .int .i64 17, .int .i64 19, .int .i64 10, .int .i64 2, .int .i64 13, .int .i64 22, .int .i64 6, .int .i64 11, .int .i64 25], 16⟩ :: ⟨bs, 0, (stL (upInit T256.init)).map w64, 8⟩ :: G)) ∧ (x.1 = 8 → x.2.toNat = l.length) ∧ (x.1 < 8 → x.2.toNat = l.length / 32 / 256 ^ (8 - 1 - x.1)) ∧ x.1 ≤ 8) (fun x => x.1) (8, BitVec.ofInt 64 (l.length : Int)) (.cons rfl (.cons rfl .nil)) (.cons (by (conv => lhs; whnf) <;> rfl) (.cons (by (conv => lhs; whnf) <;> rfl) (.cons (by (conv => lhs; whnf) <;> rfl) (.cons (by (conv => lhs; whnf) <;> rfl) .nil)))) (by repeat (first | exact Take.nil | apply Take.one (by repeat (first | exact Pick.here | apply Pick.there | apply Pick.far)) | apply Take.seg (by repeat (first | exact PickS.last | exact PickS.one | exact PickS.here | exact PickS.nil | apply PickS.there | apply PickS.far)) | exact Take.last (by repeat (first | exact PickS.last | exact PickS.one | exact PickS.here | exact PickS.nil | apply PickS.there | apply PickS.far)))) (⟨rfl, fun _ => by rw [BitVec.ofInt_natCast, BitVec.toNat_ofNat]; exact Nat.mod_eq_of_lt (by omega), fun h => absurd h (by simp), Nat.le_refl _⟩) ?_
    rintro ⟨y, Nn⟩ e_ L ⟨rfl, hN1, hN2, hy⟩
    simp only at hN1 hN2 hy
    refine T.seq ?_
    refine T.seq ?_
    refine T.region ?_
    refine TL.cons rfl (V1.t (V1.move' (by (conv => lhs; whnf) <;> rfl)) ?_)
    refine TL.cons rfl (T1.geI_split rfl rfl (fun h8_1 => ?_) (fun h8_1 => ?_))
    ·
      try simp only at h8_1
      obtain ⟨i, rfl⟩ : ∃ i, y = i + 1 := ⟨y - 1, by omega⟩
      refine TL.nil ?_
      refine T.cond_t rfl ?_
      refine T.skip ?_
      refine T.seq ?_
      refine T.block ?_
      refine T.seq ?_
      refine T.region ?_
      refine TL.cons rfl (V1.t (V1.move' (v := .int .i64 (i : Int)) (congrArg (Value.int .i64) (show ((i + 1 : Nat) : Int) - 1 = (i : Int) by omega))) ?_)
      refine TL.cons rfl (V1.t (V1.move' (by (conv => lhs; whnf) <;> rfl)) ?_)
      refine TL.cons rfl (V1.t (V1.mul (c := 8) rfl rfl (by decide)) ?_)
      refine TL.cons rfl (V1.t (V1.sub (c := 7) rfl rfl (by decide)) ?_)
      refine TL.cons rfl (T1.eqI_split rfl rfl (fun h10_4 => ?_) (fun h10_4 => ?_))
      ·
        refine TL.nil ?_
        refine T.cond_t rfl ?_
        refine T.seq ?_
        refine T.region ?_
        refine TL.cons rfl (V1.t (V1.move' (by (conv => lhs; whnf) <;> rfl)) ?_)
        refine TL.cons rfl (V1.t (V1.move' (v := .int .i64 (i : Int)) (congrArg (Value.int .i64) (show ((i + 1 : Nat) : Int) - 1 = (i : Int) by omega))) ?_)
        refine TL.cons rfl (V1.t (V1.move' (by (conv => lhs; whnf) <;> rfl)) ?_)
        refine TL.cons rfl (V1.t (V1.remW (b := 32#64) rfl rfl (by decide)) ?_)
        refine TL.cons rfl (V1.t (V1.mulW (b := 8#64) u64U rfl rfl) ?_)
        refine TL.cons rfl (V1.t (V1.convW 8 u8U ty_32 ty_5 rfl) ?_)
        refine TL.cons rfl (V1.t (V1.indexAddrS ty_33 sz_5 rfl rfl (by omega) (by omega)) ?_)
        refine TL.cons rfl (T1.storeE (o := 0 + i * 1) (cells := List.replicate (i + 1) (.int .u8 0) ++ ((beBytes 8 (8 * l.length)).drop (i + 1)).map byteV) (cells' := List.replicate i (.int .u8 0) ++ ((beBytes 8 (8 * l.length)).drop i).map byteV) (v := byteV (UInt8.ofNat (8 * l.length / 256 ^ (8 - 1 - i)))) rfl (congrArg (fun z : Nat => Value.int .u8 (z : Int)) (show _ = (UInt8.ofNat (8 * l.length / 256 ^ (8 - 1 - i))).toNat from by rw [show 8 - 1 - i = 0 from by omega]; exact cntA (hN1 (by omega)))) sz_5 rfl (by rw [show 0 + i * 1 - 0 = i from by omega]; exact cnt_set (by omega)) (by repeat (first | exact Sub.one | apply Sub.there | apply Sub.far)) (Nat.zero_le _) (by rw [List.length_append, List.length_replicate, List.length_map, List.length_drop, beBytes_len]; omega) ?_)
        refine TL.nil ?_
        refine T.live (l := [(3, _), (5, _), (6, _), (7, _), (8, _), (9, _)]) (.cons (by (conv => lhs; whnf) <;> rfl) (.cons (by (conv => lhs; whnf) <;> rfl) (.cons (by (conv => lhs; whnf) <;> rfl) (.cons (by (conv => lhs; whnf) <;> rfl) (.cons (by (conv => lhs; whnf) <;> rfl) (.cons (by (conv => lhs; whnf) <;> rfl) .nil)))))) (fun e_ => ?_)
        refine T.region ?_
        refine TL.cons rfl (V1.t (V1.move' (by (conv => lhs; whnf) <;> rfl)) ?_)
        refine TL.cons rfl (V1.t (V1.quoW (b := 32#64) u64U rfl rfl (by decide)) ?_)
        refine TL.cons rfl (V1.t (V1.assign' (by (conv => lhs; whnf) <;> rfl)) ?_)
        refine TL.nil ?_
        refine T.region ?_
        refine TL.cons rfl (V1.t (V1.move' (v := .int .i64 (i : Int)) (congrArg (Value.int .i64) (show ((i + 1 : Nat) : Int) - 1 = (i : Int) by omega))) ?_)
        refine TL.cons rfl (V1.t (V1.sub rfl rfl (wrap_i64 _ (by omega) (by omega))) ?_)
        refine TL.cons rfl (V1.t (V1.assign' (by (conv => lhs; whnf) <;> rfl)) ?_)
        refine TL.nil ?_
        exact ⟨(i, Nn / 32#64), _, _, (by simp only; omega), (.cons (congrArg (Value.int .i64) (show ((i : Nat) : Int) - 1 = _ from rfl)) (.cons rfl .nil)), (.cons rfl (.cons rfl (.cons rfl (.cons rfl .nil)))), (by repeat (first | exact Take.nil | apply Take.one (by repeat (first | exact Pick.here | apply Pick.there | apply Pick.far)) | apply Take.seg (by repeat (first | exact PickS.last | exact PickS.one | exact PickS.here | exact PickS.nil | apply PickS.there | apply PickS.far)) | exact Take.last (by repeat (first | exact PickS.last | exact PickS.one | exact PickS.here | exact PickS.nil | apply PickS.there | apply PickS.far)))), ⟨rfl, fun h => absurd h (by simp only; omega), fun _ => (by simp only; rw [BitVec.toNat_udiv, hN1 (by omega), show (32#64).toNat = 32 from rfl]; rw [show 8 - 1 - i = 0 from by omega]; simp), by simp only; omega⟩⟩
      ·
        refine TL.nil ?_
        refine T.cond_f rfl ?_
        refine T.seq ?_
        refine T.region ?_
        refine TL.cons rfl (V1.t (V1.move' (by (conv => lhs; whnf) <;> rfl)) ?_)
        refine TL.cons rfl (V1.t (V1.move' (v := .int .i64 (i : Int)) (congrArg (Value.int .i64) (show ((i + 1 : Nat) : Int) - 1 = (i : Int) by omega))) ?_)
        refine TL.cons rfl (V1.t (V1.move' (by (conv => lhs; whnf) <;> rfl)) ?_)
        refine TL.cons rfl (V1.t (V1.remW (b := 256#64) rfl rfl (by decide)) ?_)
        refine TL.cons rfl (V1.t (V1.convW 8 u8U ty_32 ty_5 rfl) ?_)
        refine TL.cons rfl (V1.t (V1.indexAddrS ty_33 sz_5 rfl rfl (by omega) (by omega)) ?_)
        refine TL.cons rfl (T1.storeE (o := 0 + i * 1) (cells := List.replicate (i + 1) (.int .u8 0) ++ ((beBytes 8 (8 * l.length)).drop (i + 1)).map byteV) (cells' := List.replicate i (.int .u8 0) ++ ((beBytes 8 (8 * l.length)).drop i).map byteV) (v := byteV (UInt8.ofNat (8 * l.length / 256 ^ (8 - 1 - i)))) rfl (congrArg (fun z : Nat => Value.int .u8 (z : Int)) (show _ = (UInt8.ofNat (8 * l.length / 256 ^ (8 - 1 - i))).toNat from by rw [show 8 - 1 - i = (8 - 1 - (i + 1)) + 1 from by omega]; exact cntB (hN2 (by omega)))) sz_5 rfl (by rw [show 0 + i * 1 - 0 = i from by omega]; exact cnt_set (by omega)) (by repeat (first | exact Sub.one | apply Sub.there | apply Sub.far)) (Nat.zero_le _) (by rw [List.length_append, List.length_replicate, List.length_map, List.length_drop, beBytes_len]; omega) ?_)
        refine TL.nil ?_
        refine T.region ?_
        refine TL.cons rfl (V1.t (V1.move' (by (conv => lhs; whnf) <;> rfl)) ?_)
        refine TL.cons rfl (V1.t (V1.quoW (b := 256#64) u64U rfl rfl (by decide)) ?_)
        refine TL.cons rfl (V1.t (V1.assign' (by (conv => lhs; whnf) <;> rfl)) ?_)
        refine TL.nil ?_
        refine T.live (l := [(3, _), (5, _), (6, _), (7, _), (8, _), (9, _)]) (.cons (by (conv => lhs; whnf) <;> rfl) (.cons (by (conv => lhs; whnf) <;> rfl) (.cons (by (conv => lhs; whnf) <;> rfl) (.cons (by (conv => lhs; whnf) <;> rfl) (.cons (by (conv => lhs; whnf) <;> rfl) (.cons (by (conv => lhs; whnf) <;> rfl) .nil)))))) (fun e_ => ?_)
        refine T.region ?_
        refine TL.cons rfl (V1.t (V1.move' (v := .int .i64 (i : Int)) (congrArg (Value.int .i64) (show ((i + 1 : Nat) : Int) - 1 = (i : Int) by omega))) ?_)
        refine TL.cons rfl (V1.t (V1.sub rfl rfl (wrap_i64 _ (by omega) (by omega))) ?_)
        refine TL.cons rfl (V1.t (V1.assign' (by (conv => lhs; whnf) <;> rfl)) ?_)
        refine TL.nil ?_
        exact ⟨(i, Nn / 256#64), _, _, (by simp only; omega), (.cons (congrArg (Value.int .i64) (show ((i : Nat) : Int) - 1 = _ from rfl)) (.cons rfl .nil)), (.cons rfl (.cons rfl (.cons rfl (.cons rfl .nil)))), (by repeat (first | exact Take.nil | apply Take.one (by repeat (first | exact Pick.here | apply Pick.there | apply Pick.far)) | apply Take.seg (by repeat (first | exact PickS.last | exact PickS.one | exact PickS.here | exact PickS.nil | apply PickS.there | apply PickS.far)) | exact Take.last (by repeat (first | exact PickS.last | exact PickS.one | exact PickS.here | exact PickS.nil | apply PickS.there | apply PickS.far)))), ⟨rfl, fun h => absurd h (by simp only; omega), fun _ => (by simp only; rw [BitVec.toNat_udiv, hN2 (by omega), show (256#64).toNat = 256 from rfl]; rw [show 8 - 1 - i = (8 - 1 - (i + 1)) + 1 from by omega, Nat.pow_succ, ← Nat.div_div_eq_div_mul]), by simp only; omega⟩⟩
    ·
      try simp only at h8_1
      obtain rfl : y = 0 := by omega
      refine TL.nil ?_
      refine T.cond_f rfl ?_
      refine T.exit ?_
      refine T.seq ?_
      refine T.region ?_
      refine TL.cons rfl (V1.t (V1.move' (by (conv => lhs; whnf) <;> rfl)) ?_)
      refine TL.cons rfl (V1.t (V1.move' (by (conv => lhs; whnf) <;> rfl)) ?_)
      refine TL.cons rfl (T1.append ty_33 kd_33 sz_5 by_5 zr_5 rfl (by decide) (by decide) rfl rfl hsi (.sl (n := 8) (RdN.at0 (cells := (beBytes 8 (8 * l.length)).map byteV) (by repeat (first | exact Find.here | assumption | apply Find.there | apply Find.far))) (by rw [List.length_map, beBytes_len])) (one_bytes (beBytes 8 (8 * l.length))) 200000000002000 (by simp only [List.length_map, List.length_cons, List.length_nil]; rw [beBytes_len]; omega) (by omega) (by repeat (first | exact PickS.last | exact PickS.one | exact PickS.here | exact PickS.nil | apply PickS.there | apply PickS.far)) (fun s3 Lss3 hs3 => ?_))
      rw [← List.map_append, List.append_assoc, show padTo 32 l.length (zmax 32 l.length) 0 ++ beBytes 8 (8 * l.length) = pad 32 l.length from padTo_end] at hs3
      obtain ⟨pl, hpl⟩ : ∃ z, z = l ++ pad 32 l.length := ⟨_, rfl⟩
      rw [← hpl] at hs3
      have hplp : 0 < pl.length := by rw [hpl, List.length_append]; have := pad_pos 32 l.length; omega
      obtain ⟨M, hM⟩ : ∃ M, pl.length = 64 * M := by rw [hpl, List.length_append]; exact ⟨_, (Nat.mul_div_cancel' (Nat.dvd_of_mod_eq_zero (pad_len (w := 32) (by decide) l.length))).symm⟩
      have hplm : pl.length ≤ 200000000002000 := by rw [hpl, List.length_append, pad_length]; omega
      obtain ⟨bp, op, cp, zp, rfl, hcp, hzp, rfl⟩ := hs3.block (by intro h; have := congrArg List.length h; simp only [List.length_map, List.length_nil] at this; omega)
      rw [List.length_map] at hcp ⊢
      dsimp only [List.cons_append, List.nil_append]
      refine TL.cons rfl (V1.t (V1.assign' (by (conv => lhs; whnf) <;> rfl)) ?_)
      refine TL.nil ?_
      refine T.seq ?_
      refine T.region ?_
      refine TL.cons rfl (T1.callN has_40 rfl (fun w hs => Table_any w) (fun v Y hY => ?_))
      obtain ⟨bt, rfl, rfl⟩ := hY
      dsimp only [List.cons_append, List.nil_append]
      refine TL.cons rfl (V1.t (V1.assign' (by (conv => lhs; whnf) <;> rfl)) ?_)
      refine TL.nil ?_
      refine T.seq ?_
      refine T.region ?_
      refine TL.cons rfl (T1.buildSl1 (os := []) ty_93 sz_32 zr_32 (by decide) rfl .nil rfl (ones rfl) (fun b91 => ?_))
      refine TL.cons rfl (V1.t (V1.fieldAddr fl_96_3 rfl) ?_)
      refine TL.cons rfl (V1.t (V1.load1 one_93 rfl (.own (by repeat (first | exact Find.here | assumption | apply Find.there | apply Find.far)) (by rfl))) ?_)
      refine TL.cons rfl (T1.append ty_93 kd_93 sz_32 by_32 zr_32 rfl (by decide) (by decide) rfl rfl (Sl.mk (b := b91) (xs := []) (len := 0) (cap := 0) (size := 0) rfl (Nat.le_refl _) (Nat.le_refl _)) (.sl (n := 8) (RdN.at0 (cells := (stL (upInit T256.init)).map w64) (by repeat (first | exact Find.here | assumption | apply Find.there | apply Find.far))) rfl) (ones rfl) 100 (by simp [stL]) (by omega) (by repeat (first | exact PickS.last | exact PickS.one | exact PickS.here | exact PickS.nil | apply PickS.there | apply PickS.far)) (fun s4 Lss4 hs4 => ?_))
      rw [List.nil_append] at hs4
      obtain ⟨bst, ost, cst, zst, rfl, hcst, hzcst, rfl⟩ := hs4.block (by simp [stL])
      rw [show ((stL (upInit T256.init)).map w64).length = 8 from rfl] at hcst ⊢
      dsimp only [List.cons_append, List.nil_append]
      refine TL.cons rfl (V1.t (V1.assign' (by (conv => lhs; whnf) <;> rfl)) ?_)
      refine TL.nil ?_
      refine T.seq ?_
      refine T.drawK (fun L_ => Find L_ ⟨b3, 0, [.int .i64 32, .int .i64 64, .int .i64 64, .slice (some ⟨bs, 0, none⟩) 8 8, .int .i64 7, .int .i64 18, .int .i64 3, .int .i64 17, .int .i64 19, .int .i64 10, .int .i64 2, .int .i64 13, .int .i64 22, .int .i64 6, .int .i64 11, .int .i64 25], 16⟩) mixed (by repeat (first | exact Find.here | assumption | apply Find.there | apply Find.far)) ?_
      refine TK.take 0 rfl (by decide +kernel) (by decide +kernel) (by decide +kernel) rfl (fun _ _ _ h => h) (fun L_ k1_ => V1.fieldAddr fl_96_0 rfl) ?_
      refine TK.take 1 rfl (by decide +kernel) (by decide +kernel) (by decide +kernel) rfl (fun _ _ _ h => h) (fun L_ k1_ => V1.load1 one_3 rfl (.own (by repeat (first | exact Find.here | assumption | apply Find.there | apply Find.far)) (by rfl))) ?_
      refine TK.take 2 rfl (by decide +kernel) (by decide +kernel) (by decide +kernel) rfl (fun _ _ _ h => h) (fun L_ k1_ => V1.fieldAddr fl_96_4 rfl) ?_
      refine TK.take 3 rfl (by decide +kernel) (by decide +kernel) (by decide +kernel) rfl (fun _ _ _ h => h) (fun L_ k1_ => V1.loadN (vs := [.int .i64 7, .int .i64 18, .int .i64 3, .int .i64 17, .int .i64 19, .int .i64 10, .int .i64 2, .int .i64 13, .int .i64 22, .int .i64 6, .int .i64 11, .int .i64 25]) one_94 sz_94 rfl (RdN.sub (o := 4) (k := 12) (cells := [.int .i64 32, .int .i64 64, .int .i64 64, .slice (some ⟨bs, 0, none⟩) 8 8, .int .i64 7, .int .i64 18, .int .i64 3, .int .i64 17, .int .i64 19, .int .i64 10, .int .i64 2, .int .i64 13, .int .i64 22, .int .i64 6, .int .i64 11, .int .i64 25]) (by repeat (first | exact Find.here | assumption | apply Find.there | apply Find.far))) rfl) ?_
      refine TK.one 4 (by decide +kernel) rfl rfl (T1.allocN 12 zr_94 rfl (fun b13 => ?_))
      refine ⟨(by repeat (first | exact Find.here | assumption | apply Find.there | apply Find.far)), ?_⟩
      refine TK.take 5 rfl (by decide +kernel) (by decide +kernel) (by decide +kernel) rfl (fun _ _ _ h => h) (fun L_ k1_ => V1.assign' (by (conv => lhs; whnf) <;> rfl)) ?_
      refine TK.one 6 (by decide +kernel) rfl rfl (T1.storeN rfl rfl sz_94 (ones rfl) (by repeat (first | exact Sub.one | apply Sub.there | apply Sub.far)) (by rfl) (by rfl) ?_)
      refine ⟨(by repeat (first | exact Find.here | assumption | apply Find.there | apply Find.far)), ?_⟩
      refine TD.done (by decide +kernel) ?_
      refine T.seq ?_
      refine T.seq ?_
      refine T.live (l := [(3, _), (5, _), (6, _), (10, _), (11, _), (12, _), (13, _)]) (.cons (by (conv => lhs; whnf) <;> rfl) (.cons (by (conv => lhs; whnf) <;> rfl) (.cons (by (conv => lhs; whnf) <;> rfl) (.cons (by (conv => lhs; whnf) <;> rfl) (.cons (by (conv => lhs; whnf) <;> rfl) (.cons (by (conv => lhs; whnf) <;> rfl) (.cons (by (conv => lhs; whnf) <;> rfl) .nil))))))) (fun e_ => ?_)
      refine T.region ?_
      refine TL.cons rfl (V1.t (V1.assign' (by (conv => lhs; whnf) <;> rfl)) ?_)
      refine TL.nil ?_
      refine T.block ?_
      refine T.loopL (σ := Nat × R8 64) (l0 := [(3, _), (5, _), (6, _), (10, _), (11, _), (12, _), (13, _)]) (fun x => [(14, .int .i64 ((64 * x.1 : Nat) : Int))]) (fun x L => L = ⟨bst, ost, (stL x.2).map w64, zst⟩ :: ⟨b13, 0, [.int .i64 7, .int .i64 18, .int .i64 3, .int .i64 17, .int .i64 19, .int .i64 10, .int .i64 2, .int .i64 13, .int .i64 22, .int .i64 6, .int .i64 11, .int .i64 25], 12⟩ :: ⟨bt, 0, tableV, 80⟩ :: ⟨bp, op, pl.map byteV, zp⟩ :: ⟨b3, 0, [.int .i64 32, .int .i64 64, .int .i64 64, .slice (some ⟨bs, 0, none⟩) 8 8, .int .i64 7, .int .i64 18, .int .i64 3, .int .i64 17, .int .i64 19, .int .i64 10, .int .i64 2, .int .i64 13, .int .i64 22, .int .i64 6, .int .i64 11, .int .i64 25], 16⟩ :: ⟨bs, 0, (stL (upInit T256.init)).map w64, 8⟩ :: G ∧ UpR x.2 (steps T256 T256.init pl x.1) ∧ x.1 ≤ M) (fun x => M - x.1) (0, upInit T256.init) (.cons rfl .nil) (.cons (by (conv => lhs; whnf) <;> rfl) (.cons (by (conv => lhs; whnf) <;> rfl) (.cons (by (conv => lhs; whnf) <;> rfl) (.cons (by (conv => lhs; whnf) <;> rfl) (.cons (by (conv => lhs; whnf) <;> rfl) (.cons (by (conv => lhs; whnf) <;> rfl) (.cons (by (conv => lhs; whnf) <;> rfl) .nil))))))) (by repeat (first | exact Take.nil | apply Take.one (by repeat (first | exact Pick.here | apply Pick.there | apply Pick.far)) | apply Take.seg (by repeat (first | exact PickS.last | exact PickS.one | exact PickS.here | exact PickS.nil | apply PickS.there | apply PickS.far)) | exact Take.last (by repeat (first | exact PickS.last | exact PickS.one | exact PickS.here | exact PickS.nil | apply PickS.there | apply PickS.far)))) (⟨rfl, upInit_up (by decide) _, Nat.zero_le _⟩) ?_
      rintro ⟨m, Sm⟩ e_ L ⟨rfl, hS, hm⟩
      simp only at hS hm
      refine T.seq ?_
      refine T.seq ?_
      refine T.region ?_
      refine TL.cons rfl (V1.t (V1.move' (by (conv => lhs; whnf) <;> rfl)) ?_)
      refine TL.cons rfl (V1.t (V1.move' (by (conv => lhs; whnf) <;> rfl)) ?_)
      refine TL.cons rfl (V1.t (V1.lenSl ty_33 rfl) ?_)
      refine TL.cons rfl (T1.ltI_split rfl rfl (fun h20_3 => ?_) (fun h20_3 => ?_))
      ·
        try simp only at h20_3
        obtain ⟨WW, hWW⟩ : ∃ z, z = sched T256 (words 32 ((pl.drop (64 * m)).take 64)) 48 := ⟨_, rfl⟩
        have hWl : WW.length = 64 := by rw [hWW, sched_len, words_len]
        refine TL.nil ?_
        refine T.cond_t rfl ?_
        refine T.skip ?_
        refine T.seq ?_
        refine T.block ?_
        refine T.seq ?_
        refine T.region ?_
        refine TL.cons rfl (V1.t (V1.fieldAddr fl_96_1 rfl) ?_)
        refine TL.cons rfl (V1.t (V1.load1 one_3 rfl (.own (by repeat (first | exact Find.here | assumption | apply Find.there | apply Find.far)) (by rfl))) ?_)
        refine TL.cons rfl (T1.make1 64 64 ty_93 sz_32 by_32 zr_32 rfl rfl rfl (Nat.le_refl _) (by decide) (by decide) (fun b109 => ?_))
        refine TL.cons rfl (V1.t (V1.assign' (by (conv => lhs; whnf) <;> rfl)) ?_)
        refine TL.nil ?_
        refine T.seq ?_
        refine T.seq ?_
        refine T.region ?_
        refine TL.cons rfl (V1.t (V1.assign' (by (conv => lhs; whnf) <;> rfl)) ?_)
        refine TL.nil ?_
        refine T.block ?_
        refine T.loopL (σ := Nat × List (BitVec 64)) (l0 := [(3, _), (5, _), (6, _), (10, _), (11, _), (12, _), (13, _), (14, _), (15, _)]) (fun x => [(16, .int .i64 (x.1 : Nat))]) (fun x L => L = ⟨b109, 0, x.2.map w64 ++ List.replicate (64 - (x.1)) (.int .u64 0), 64⟩ :: ⟨bst, ost, (stL Sm).map w64, zst⟩ :: ⟨b13, 0, [.int .i64 7, .int .i64 18, .int .i64 3, .int .i64 17, .int .i64 19, .int .i64 10, .int .i64 2, .int .i64 13, .int .i64 22, .int .i64 6, .int .i64 11, .int .i64 25], 12⟩ :: ⟨bt, 0, tableV, 80⟩ :: ⟨bp, op, pl.map byteV, zp⟩ :: ⟨b3, 0, [.int .i64 32, .int .i64 64, .int .i64 64, .slice (some ⟨bs, 0, none⟩) 8 8, .int .i64 7, .int .i64 18, .int .i64 3, .int .i64 17, .int .i64 19, .int .i64 10, .int .i64 2, .int .i64 13, .int .i64 22, .int .i64 6, .int .i64 11, .int .i64 25], 16⟩ :: ⟨bs, 0, (stL (upInit T256.init)).map w64, 8⟩ :: G ∧ x.2.length = x.1 ∧ x.1 ≤ 64 ∧ ∀ j, j < x.1 → Up (x.2.getD j 0) (WW.getD j 0)) (fun x => 64 - x.1) (0, []) (.cons rfl .nil) (.cons (by (conv => lhs; whnf) <;> rfl) (.cons (by (conv => lhs; whnf) <;> rfl) (.cons (by (conv => lhs; whnf) <;> rfl) (.cons (by (conv => lhs; whnf) <;> rfl) (.cons (by (conv => lhs; whnf) <;> rfl) (.cons (by (conv => lhs; whnf) <;> rfl) (.cons (by (conv => lhs; whnf) <;> rfl) (.cons (by (conv => lhs; whnf) <;> rfl) (.cons (by (conv => lhs; whnf) <;> rfl) .nil))))))))) (by repeat (first | exact Take.nil | apply Take.one (by repeat (first | exact Pick.here | apply Pick.there | apply Pick.far)) | apply Take.seg (by repeat (first | exact PickS.last | exact PickS.one | exact PickS.here | exact PickS.nil | apply PickS.there | apply PickS.far)) | exact Take.last (by repeat (first | exact PickS.last | exact PickS.one | exact PickS.here | exact PickS.nil | apply PickS.there | apply PickS.far)))) (⟨rfl, rfl, Nat.zero_le _, fun j h => absurd h (Nat.not_lt_zero _)⟩) ?_
        rintro ⟨i, LS⟩ e_ L ⟨rfl, hl, hi, hup⟩
        simp only at hl hi hup
        refine T.seq ?_
        refine T.seq ?_
        refine T.region ?_
        refine TL.cons rfl (V1.t (V1.move' (by (conv => lhs; whnf) <;> rfl)) ?_)
        refine TL.cons rfl (V1.t (V1.fieldAddr fl_96_1 rfl) ?_)
        refine TL.cons rfl (V1.t (V1.load1 one_3 rfl (.own (by repeat (first | exact Find.here | assumption | apply Find.there | apply Find.far)) (by rfl))) ?_)
        refine TL.cons rfl (T1.ltI_split rfl rfl (fun h24_3 => ?_) (fun h24_3 => ?_))
        ·
          try simp only at h24_3
          refine TL.nil ?_
          refine T.cond_t rfl ?_
          refine T.skip ?_
          refine T.seq ?_
          refine T.block ?_
          refine T.seq ?_
          refine T.seq ?_
          refine T.region ?_
          refine TL.cons rfl (V1.t (V1.move' (by (conv => lhs; whnf) <;> rfl)) ?_)
          refine TL.cons rfl (T1.ltI_split rfl rfl (fun h26_1 => ?_) (fun h26_1 => ?_))
          ·
            try simp only at h26_1
            have hbl : ((((pl.drop (64 * m)).take 64).drop (4 * i)).take 4).length = 4 := by rw [List.length_take, List.length_drop, List.length_take, List.length_drop]; omega
            have hWi : WW.getD i 0 = word 32 ((((pl.drop (64 * m)).take 64).drop (4 * i)).take 4) := by rw [hWW, sched_first T256 _ (by rw [words_len]; omega), words_get _ (by omega)]
            rw [rep_open (by omega)]
            refine TL.nil ?_
            refine T.cond_t rfl ?_
            refine T.seq ?_
            refine T.seq ?_
            refine T.region ?_
            refine TL.cons rfl (V1.t (V1.assign' (by (conv => lhs; whnf) <;> rfl)) ?_)
            refine TL.nil ?_
            refine T.block ?_
            refine T.loopL (σ := Nat × BitVec 64) (l0 := [(3, _), (5, _), (6, _), (10, _), (11, _), (12, _), (13, _), (14, _), (15, _), (16, _)]) (fun x => [(17, .int .i64 (x.1 : Nat))]) (fun x L => L = ⟨b109, 0, LS.map w64 ++ w64 x.2 :: List.replicate (64 - (i + 1)) (.int .u64 0), 64⟩ :: ⟨bst, ost, (stL Sm).map w64, zst⟩ :: ⟨b13, 0, [.int .i64 7, .int .i64 18, .int .i64 3, .int .i64 17, .int .i64 19, .int .i64 10, .int .i64 2, .int .i64 13, .int .i64 22, .int .i64 6, .int .i64 11, .int .i64 25], 12⟩ :: ⟨bt, 0, tableV, 80⟩ :: ⟨bp, op, pl.map byteV, zp⟩ :: ⟨b3, 0, [.int .i64 32, .int .i64 64, .int .i64 64, .slice (some ⟨bs, 0, none⟩) 8 8, .int .i64 7, .int .i64 18, .int .i64 3, .int .i64 17, .int .i64 19, .int .i64 10, .int .i64 2, .int .i64 13, .int .i64 22, .int .i64 6, .int .i64 11, .int .i64 25], 16⟩ :: ⟨bs, 0, (stL (upInit T256.init)).map w64, 8⟩ :: G ∧ x.2.toNat = wordN (((((pl.drop (64 * m)).take 64).drop (4 * i)).take 4).take x.1) ∧ x.1 ≤ 4) (fun x => 4 - x.1) (0, 0#64) (.cons rfl .nil) (.cons (by (conv => lhs; whnf) <;> rfl) (.cons (by (conv => lhs; whnf) <;> rfl) (.cons (by (conv => lhs; whnf) <;> rfl) (.cons (by (conv => lhs; whnf) <;> rfl) (.cons (by (conv => lhs; whnf) <;> rfl) (.cons (by (conv => lhs; whnf) <;> rfl) (.cons (by (conv => lhs; whnf) <;> rfl) (.cons (by (conv => lhs; whnf) <;> rfl) (.cons (by (conv => lhs; whnf) <;> rfl) (.cons (by (conv => lhs; whnf) <;> rfl) .nil)))))))))) (by repeat (first | exact Take.nil | apply Take.one (by repeat (first | exact Pick.here | apply Pick.there | apply Pick.far)) | apply Take.seg (by repeat (first | exact PickS.last | exact PickS.one | exact PickS.here | exact PickS.nil | apply PickS.there | apply PickS.far)) | exact Take.last (by repeat (first | exact PickS.last | exact PickS.one | exact PickS.here | exact PickS.nil | apply PickS.there | apply PickS.far)))) (⟨rfl, rfl, Nat.zero_le _⟩) ?_
            rintro ⟨c, X⟩ e_ L ⟨rfl, hX, hc⟩
            simp only at hX hc
            refine T.seq ?_
            refine T.seq ?_
            refine T.region ?_
            refine TL.cons rfl (V1.t (V1.move' (by (conv => lhs; whnf) <;> rfl)) ?_)
            refine TL.cons rfl (V1.t (V1.move' (by (conv => lhs; whnf) <;> rfl)) ?_)
            refine TL.cons rfl (T1.ltI_split rfl rfl (fun h28_2 => ?_) (fun h28_2 => ?_))
            ·
              try simp only at h28_2
              refine TL.nil ?_
              refine T.cond_t rfl ?_
              refine T.skip ?_
              refine T.seq ?_
              refine T.block ?_
              refine T.drawTail 19 mixed (by decide +kernel) (by rfl) (by decide +kernel) rfl ?_
              refine Det.cons 0 (ins := [(15, _)]) (.old (by (conv => lhs; whnf) <;> rfl) (by decide +kernel) .nil) (fun e_ => .inl ⟨rfl, V1.t (V1.move' (by (conv => lhs; whnf) <;> rfl)) ⟨rfl, rfl⟩⟩) ?_
              refine Det.cons 1 (ins := [(16, _)]) (.old (by (conv => lhs; whnf) <;> rfl) (by decide +kernel) .nil) (fun e_ => .inl ⟨rfl, V1.t (V1.move' (by (conv => lhs; whnf) <;> rfl)) ⟨rfl, rfl⟩⟩) ?_
              refine Det.cons 2 (ins := [(15, _)]) (.old (by (conv => lhs; whnf) <;> rfl) (by decide +kernel) .nil) (fun e_ => .inl ⟨rfl, V1.t (V1.move' (by (conv => lhs; whnf) <;> rfl)) ⟨rfl, rfl⟩⟩) ?_
              refine Det.cons 3 (ins := [(16, _)]) (.old (by (conv => lhs; whnf) <;> rfl) (by decide +kernel) .nil) (fun e_ => .inl ⟨rfl, V1.t (V1.move' (by (conv => lhs; whnf) <;> rfl)) ⟨rfl, rfl⟩⟩) ?_
              refine Det.cons 4 (ins := [(125, _), (126, _)]) (.new 2 1 (by decide +kernel) rfl rfl (.new 3 0 (by decide +kernel) rfl rfl .nil)) (fun e_ => .inl ⟨rfl, V1.t (V1.indexAddrS ty_93 sz_32 rfl rfl (by omega) (by omega)) ⟨rfl, rfl⟩⟩) ?_
              refine Det.cons 5 (ins := [(127, _)]) (.new 4 0 (by decide +kernel) rfl rfl .nil) (fun e_ => .inl ⟨rfl, V1.t (V1.load1 one_32 rfl (show Rd _ _ ⟨b109, 0 + i * 1, none⟩ (w64 X) from by rw [Nat.mul_one]; exact Rd.at (by repeat (first | exact Find.here | assumption | apply Find.there | apply Find.far)) (at_get (by rw [List.length_map]; exact hl)))) ⟨rfl, rfl⟩⟩) ?_
              refine Det.cons 6 (ins := [(128, _)]) (.new 5 0 (by decide +kernel) rfl rfl .nil) (fun e_ => .inl ⟨rfl, V1.t (V1.mulW (b := 256#64) u64U rfl rfl) ⟨rfl, rfl⟩⟩) ?_
              refine Det.cons 7 (ins := [(6, _)]) (.old (by (conv => lhs; whnf) <;> rfl) (by decide +kernel) .nil) (fun e_ => .inl ⟨rfl, V1.t (V1.move' (by (conv => lhs; whnf) <;> rfl)) ⟨rfl, rfl⟩⟩) ?_
              refine Det.cons 8 (ins := [(14, _)]) (.old (by (conv => lhs; whnf) <;> rfl) (by decide +kernel) .nil) (fun e_ => .inl ⟨rfl, V1.t (V1.move' (by (conv => lhs; whnf) <;> rfl)) ⟨rfl, rfl⟩⟩) ?_
              refine Det.cons 9 (ins := [(5, _)]) (.old (by (conv => lhs; whnf) <;> rfl) (by decide +kernel) .nil) (fun e_ => .inl ⟨rfl, V1.t (V1.move' (by (conv => lhs; whnf) <;> rfl)) ⟨rfl, rfl⟩⟩) ?_
              refine Det.cons 10 (ins := [(16, _)]) (.old (by (conv => lhs; whnf) <;> rfl) (by decide +kernel) .nil) (fun e_ => .inl ⟨rfl, V1.t (V1.move' (by (conv => lhs; whnf) <;> rfl)) ⟨rfl, rfl⟩⟩) ?_
              refine Det.cons 11 (ins := [(132, _), (133, _)]) (.new 9 1 (by decide +kernel) rfl rfl (.new 10 0 (by decide +kernel) rfl rfl .nil)) (fun e_ => .inl ⟨rfl, V1.t (V1.mul (c := ((4 * i : Nat) : Int)) rfl rfl (by rw [wrap_i64 _ (by omega) (by omega)]; omega)) ⟨rfl, rfl⟩⟩) ?_
              refine Det.cons 12 (ins := [(131, _), (134, _)]) (.new 8 3 (by decide +kernel) rfl rfl (.new 11 0 (by decide +kernel) rfl rfl .nil)) (fun e_ => .inl ⟨rfl, V1.t (V1.add (c := ((64 * m + 4 * i : Nat) : Int)) rfl rfl (by rw [wrap_i64 _ (by omega) (by omega)]; omega)) ⟨rfl, rfl⟩⟩) ?_
              refine Det.cons 13 (ins := [(17, _)]) (.old (by (conv => lhs; whnf) <;> rfl) (by decide +kernel) .nil) (fun e_ => .inl ⟨rfl, V1.t (V1.move' (by (conv => lhs; whnf) <;> rfl)) ⟨rfl, rfl⟩⟩) ?_
              refine Det.cons 14 (ins := [(135, _), (136, _)]) (.new 12 1 (by decide +kernel) rfl rfl (.new 13 0 (by decide +kernel) rfl rfl .nil)) (fun e_ => .inl ⟨rfl, V1.t (V1.add (c := ((64 * m + 4 * i + c : Nat) : Int)) rfl rfl (by rw [wrap_i64 _ (by omega) (by omega)]; omega)) ⟨rfl, rfl⟩⟩) ?_
              refine Det.cons 15 (ins := [(130, _), (137, _)]) (.new 7 7 (by decide +kernel) rfl rfl (.new 14 0 (by decide +kernel) rfl rfl .nil)) (fun e_ => .inl ⟨rfl, V1.t (V1.indexAddrS ty_33 sz_5 rfl rfl (by omega) (by omega)) ⟨rfl, rfl⟩⟩) ?_
              refine Det.cons 16 (ins := [(138, _)]) (.new 15 0 (by decide +kernel) rfl rfl .nil) (fun e_ => .inl ⟨rfl, V1.t (V1.load1 one_5 rfl (show Rd _ _ ⟨bp, op + (64 * m + 4 * i + c) * 1, none⟩ (byteV (((((pl.drop (64 * m)).take 64).drop (4 * i)).take 4).getD c 0)) from by rw [Nat.mul_one]; exact Rd.at (by repeat (first | exact Find.here | assumption | apply Find.there | apply Find.far)) (piece_get (by omega) (by omega) (by omega)))) ⟨rfl, rfl⟩⟩) ?_
              refine Det.cons 17 (ins := [(139, _)]) (.new 16 0 (by decide +kernel) rfl rfl .nil) (fun e_ => .inl ⟨rfl, V1.t (V1.convW 64 u64U ty_5 ty_32 rfl) ⟨rfl, rfl⟩⟩) ?_
              refine Det.cons 18 (ins := [(129, _), (140, _)]) (.new 6 11 (by decide +kernel) rfl rfl (.new 17 0 (by decide +kernel) rfl rfl .nil)) (fun e_ => .inl ⟨rfl, V1.t (V1.addW u64U rfl rfl) ⟨rfl, rfl⟩⟩) ?_
              refine Det.nil 19 (l := [(3, _), (5, _), (6, _), (10, _), (11, _), (12, _), (13, _), (14, _), (15, _), (16, _), (17, _), (123, _), (124, _), (141, _)]) (.old (by (conv => lhs; whnf) <;> rfl) (by decide +kernel) (.old (by (conv => lhs; whnf) <;> rfl) (by decide +kernel) (.old (by (conv => lhs; whnf) <;> rfl) (by decide +kernel) (.old (by (conv => lhs; whnf) <;> rfl) (by decide +kernel) (.old (by (conv => lhs; whnf) <;> rfl) (by decide +kernel) (.old (by (conv => lhs; whnf) <;> rfl) (by decide +kernel) (.old (by (conv => lhs; whnf) <;> rfl) (by decide +kernel) (.old (by (conv => lhs; whnf) <;> rfl) (by decide +kernel) (.old (by (conv => lhs; whnf) <;> rfl) (by decide +kernel) (.old (by (conv => lhs; whnf) <;> rfl) (by decide +kernel) (.old (by (conv => lhs; whnf) <;> rfl) (by decide +kernel) (.new 0 18 (by decide +kernel) rfl rfl (.new 1 17 (by decide +kernel) rfl rfl (.new 18 0 (by decide +kernel) rfl rfl .nil)))))))))))))) (fun e_ => ?_)
              refine (show TU _ _ _ 2 _ _ _ from ?_)
              refine TU.one 19 (by decide +kernel) rfl rfl (V1.t (V1.indexAddrS ty_93 sz_32 rfl rfl (by omega) (by omega)) ?_)
              refine TU.one 20 (by decide +kernel) rfl rfl (T1.storeE (o := 0 + i * 1) (cells := LS.map w64 ++ w64 X :: List.replicate (64 - (i + 1)) (.int .u64 0)) (cells' := LS.map w64 ++ w64 (X * 256#64 + (((((pl.drop (64 * m)).take 64).drop (4 * i)).take 4).getD c 0).toBitVec.setWidth 64) :: List.replicate (64 - (i + 1)) (.int .u64 0)) rfl rfl sz_32 rfl (by rw [show 0 + i * 1 - 0 = i from by omega]; exact at_set (by rw [List.length_map]; exact hl)) (by repeat (first | exact Sub.one | apply Sub.there | apply Sub.far)) (Nat.zero_le _) (by rw [List.length_append, List.length_map, List.length_cons]; omega) ?_)
              refine TU.done (by decide +kernel) ?_
              refine T.region ?_
              refine TL.cons rfl (V1.t (V1.move' (by (conv => lhs; whnf) <;> rfl)) ?_)
              refine TL.cons rfl (V1.t (V1.add rfl rfl (wrap_i64 _ (by omega) (by omega))) ?_)
              refine TL.cons rfl (V1.t (V1.assign' (by (conv => lhs; whnf) <;> rfl)) ?_)
              refine TL.nil ?_
              exact ⟨(c + 1, X * 256#64 + (((((pl.drop (64 * m)).take 64).drop (4 * i)).take 4).getD c 0).toBitVec.setWidth 64), _, _, (by simp only; omega), (.cons rfl .nil), (.cons rfl (.cons rfl (.cons rfl (.cons rfl (.cons rfl (.cons rfl (.cons rfl (.cons rfl (.cons rfl (.cons rfl .nil)))))))))), (by repeat (first | exact Take.nil | apply Take.one (by repeat (first | exact Pick.here | apply Pick.there | apply Pick.far)) | apply Take.seg (by repeat (first | exact PickS.last | exact PickS.one | exact PickS.here | exact PickS.nil | apply PickS.there | apply PickS.far)) | exact Take.last (by repeat (first | exact PickS.last | exact PickS.one | exact PickS.here | exact PickS.nil | apply PickS.there | apply PickS.far)))), ⟨rfl, wstep hX (by omega) (by omega), by simp only; omega⟩⟩
            ·
              try simp only at h28_2
              obtain rfl : c = 4 := by omega
              have hXW : Up X (WW.getD i 0) := by unfold Up; rw [hWi, word_nat _ (by omega), hX, List.take_of_length_le (by omega)]
              refine TL.nil ?_
              refine T.cond_f rfl ?_
              refine T.exit ?_
              refine T.exit ?_
              refine T.region ?_
              refine TL.cons rfl (V1.t (V1.move' (by (conv => lhs; whnf) <;> rfl)) ?_)
              refine TL.cons rfl (V1.t (V1.add rfl rfl (wrap_i64 _ (by omega) (by omega))) ?_)
              refine TL.cons rfl (V1.t (V1.assign' (by (conv => lhs; whnf) <;> rfl)) ?_)
              refine TL.nil ?_
              rw [snoc_cells]
              exact ⟨(i + 1, LS ++ [X]), _, _, (by simp only; omega), (.cons rfl .nil), (.cons rfl (.cons rfl (.cons rfl (.cons rfl (.cons rfl (.cons rfl (.cons rfl (.cons rfl (.cons rfl .nil))))))))), (by repeat (first | exact Take.nil | apply Take.one (by repeat (first | exact Pick.here | apply Pick.there | apply Pick.far)) | apply Take.seg (by repeat (first | exact PickS.last | exact PickS.one | exact PickS.here | exact PickS.nil | apply PickS.there | apply PickS.far)) | exact Take.last (by repeat (first | exact PickS.last | exact PickS.one | exact PickS.here | exact PickS.nil | apply PickS.there | apply PickS.far)))), ⟨rfl, by simp only [List.length_append, List.length_singleton]; omega, by simp only; omega, up_snoc hl hup hXW⟩⟩
          ·
            try simp only at h26_1
            obtain ⟨j, rfl⟩ : ∃ j, i = 16 + j := ⟨i - 16, by omega⟩
            have hWi := sched_rec T256 (words 32 ((pl.drop (64 * m)).take 64)) (words_len _) (i := j) (n := 48) (by omega)
            rw [← hWW] at hWi
            refine TL.nil ?_
            refine T.cond_f rfl ?_
            refine T.skip ?_
            refine T.seq ?_
            refine T.drawDet' mixed (by decide +kernel) ?_
            refine Det.cons 0 (ins := [(15, _)]) (.old (by (conv => lhs; whnf) <;> rfl) (by decide +kernel) .nil) (fun e_ => .inl ⟨rfl, V1.t (V1.move' (by (conv => lhs; whnf) <;> rfl)) ⟨rfl, rfl⟩⟩) ?_
            refine Det.cons 1 (ins := [(16, _)]) (.old (by (conv => lhs; whnf) <;> rfl) (by decide +kernel) .nil) (fun e_ => .inl ⟨rfl, V1.t (V1.move' (by (conv => lhs; whnf) <;> rfl)) ⟨rfl, rfl⟩⟩) ?_
            refine Det.cons 2 (ins := [(144, _)]) (.new 1 0 (by decide +kernel) rfl rfl .nil) (fun e_ => .inl ⟨rfl, V1.t (V1.sub rfl rfl (c := ((j + 1 : Nat) : Int)) (by rw [wrap_i64 _ (by omega) (by omega)]; omega)) ⟨rfl, rfl⟩⟩) ?_
            refine Det.cons 3 (ins := [(143, _), (145, _)]) (.new 0 2 (by decide +kernel) rfl rfl (.new 2 0 (by decide +kernel) rfl rfl .nil)) (fun e_ => .inl ⟨rfl, V1.t (V1.indexAddrS ty_93 sz_32 rfl rfl (by omega) (by omega)) ⟨rfl, rfl⟩⟩) ?_
            refine Det.cons 4 (ins := [(146, _)]) (.new 3 0 (by decide +kernel) rfl rfl .nil) (fun e_ => .inl ⟨rfl, V1.t (V1.load1 one_32 rfl (show Rd _ _ ⟨b109, 0 + (j + 1) * 1, none⟩ (w64 (LS.getD (j + 1) 0)) from by rw [Nat.mul_one]; exact Rd.at (by repeat (first | exact Find.here | assumption | apply Find.there | apply Find.far)) (ls_get (by omega)))) ⟨rfl, rfl⟩⟩) ?_
            refine Det.cons 5 (ins := [(15, _)]) (.old (by (conv => lhs; whnf) <;> rfl) (by decide +kernel) .nil) (fun e_ => .inl ⟨rfl, V1.t (V1.move' (by (conv => lhs; whnf) <;> rfl)) ⟨rfl, rfl⟩⟩) ?_
            refine Det.cons 6 (ins := [(16, _)]) (.old (by (conv => lhs; whnf) <;> rfl) (by decide +kernel) .nil) (fun e_ => .inl ⟨rfl, V1.t (V1.move' (by (conv => lhs; whnf) <;> rfl)) ⟨rfl, rfl⟩⟩) ?_
            refine Det.cons 7 (ins := [(149, _)]) (.new 6 0 (by decide +kernel) rfl rfl .nil) (fun e_ => .inl ⟨rfl, V1.t (V1.sub rfl rfl (c := ((j + 14 : Nat) : Int)) (by rw [wrap_i64 _ (by omega) (by omega)]; omega)) ⟨rfl, rfl⟩⟩) ?_
            refine Det.cons 8 (ins := [(148, _), (150, _)]) (.new 5 2 (by decide +kernel) rfl rfl (.new 7 0 (by decide +kernel) rfl rfl .nil)) (fun e_ => .inl ⟨rfl, V1.t (V1.indexAddrS ty_93 sz_32 rfl rfl (by omega) (by omega)) ⟨rfl, rfl⟩⟩) ?_
            refine Det.cons 9 (ins := [(151, _)]) (.new 8 0 (by decide +kernel) rfl rfl .nil) (fun e_ => .inl ⟨rfl, V1.t (V1.load1 one_32 rfl (show Rd _ _ ⟨b109, 0 + (j + 14) * 1, none⟩ (w64 (LS.getD (j + 14) 0)) from by rw [Nat.mul_one]; exact Rd.at (by repeat (first | exact Find.here | assumption | apply Find.there | apply Find.far)) (ls_get (by omega)))) ⟨rfl, rfl⟩⟩) ?_
            refine Det.cons 10 (ins := [(147, _)]) (.new 4 5 (by decide +kernel) rfl rfl .nil) (fun e_ => .inl ⟨rfl, V1.t (V1.assign' (by (conv => lhs; whnf) <;> rfl)) ⟨rfl, rfl⟩⟩) ?_
            refine Det.cons 11 (ins := [(152, _)]) (.new 9 1 (by decide +kernel) rfl rfl .nil) (fun e_ => .inl ⟨rfl, V1.t (V1.assign' (by (conv => lhs; whnf) <;> rfl)) ⟨rfl, rfl⟩⟩) ?_
            refine Det.nil 12 (l := [(3, _), (5, _), (6, _), (10, _), (11, _), (12, _), (13, _), (14, _), (15, _), (16, _), (18, _), (19, _)]) (.old (by (conv => lhs; whnf) <;> rfl) (by decide +kernel) (.old (by (conv => lhs; whnf) <;> rfl) (by decide +kernel) (.old (by (conv => lhs; whnf) <;> rfl) (by decide +kernel) (.old (by (conv => lhs; whnf) <;> rfl) (by decide +kernel) (.old (by (conv => lhs; whnf) <;> rfl) (by decide +kernel) (.old (by (conv => lhs; whnf) <;> rfl) (by decide +kernel) (.old (by (conv => lhs; whnf) <;> rfl) (by decide +kernel) (.old (by (conv => lhs; whnf) <;> rfl) (by decide +kernel) (.old (by (conv => lhs; whnf) <;> rfl) (by decide +kernel) (.old (by (conv => lhs; whnf) <;> rfl) (by decide +kernel) (.new 10 1 (by decide +kernel) rfl rfl (.new 11 0 (by decide +kernel) rfl rfl .nil)))))))))))) (fun e_ => ?_)
            refine T.seq ?_
            refine T.drawDet' mixed (by decide +kernel) ?_
            refine Det.cons 0 (ins := [(18, _)]) (.old (by (conv => lhs; whnf) <;> rfl) (by decide +kernel) .nil) (fun e_ => .inl ⟨rfl, V1.t (V1.move' (by (conv => lhs; whnf) <;> rfl)) ⟨rfl, rfl⟩⟩) ?_
            refine Det.cons 1 (ins := [(13, _)]) (.old (by (conv => lhs; whnf) <;> rfl) (by decide +kernel) .nil) (fun e_ => .inl ⟨rfl, V1.t (V1.indexAddrA ty_94 sz_3 rfl rfl (by decide) (by decide)) ⟨rfl, rfl⟩⟩) ?_
            refine Det.cons 2 (ins := [(154, _)]) (.new 1 0 (by decide +kernel) rfl rfl .nil) (fun e_ => .inl ⟨rfl, V1.t (V1.load1 one_3 rfl (.own (by repeat (first | exact Find.here | assumption | apply Find.there | apply Find.far)) (by rfl))) ⟨rfl, rfl⟩⟩) ?_
            refine Det.cons 3 (ins := [(12, _)]) (.old (by (conv => lhs; whnf) <;> rfl) (by decide +kernel) .nil) (fun e_ => .inl ⟨rfl, V1.t (V1.move' (by (conv => lhs; whnf) <;> rfl)) ⟨rfl, rfl⟩⟩) ?_
            refine Det.cons 4 (ins := [(153, _), (155, _), (156, _)]) (v := w64 (turnR 32 (LS.getD (j + 1) 0) 7)) (.new 0 3 (by decide +kernel) rfl rfl (.new 2 1 (by decide +kernel) rfl rfl (.new 3 0 (by decide +kernel) rfl rfl .nil))) (fun e_ => .inl ⟨rfl, ?_⟩) ?_
            · refine T1.call0 has_42 rfl (fun w hs => turn_any (LS.getD (j + 1) 0) 7 32 w (by decide) (by decide)) (fun v hv => ?_)
              subst hv
              exact ⟨rfl, rfl⟩
            refine Det.cons 5 (ins := [(18, _)]) (.old (by (conv => lhs; whnf) <;> rfl) (by decide +kernel) .nil) (fun e_ => .inl ⟨rfl, V1.t (V1.move' (by (conv => lhs; whnf) <;> rfl)) ⟨rfl, rfl⟩⟩) ?_
            refine Det.cons 6 (ins := [(13, _)]) (.old (by (conv => lhs; whnf) <;> rfl) (by decide +kernel) .nil) (fun e_ => .inl ⟨rfl, V1.t (V1.indexAddrA ty_94 sz_3 rfl rfl (by decide) (by decide)) ⟨rfl, rfl⟩⟩) ?_
            refine Det.cons 7 (ins := [(159, _)]) (.new 6 0 (by decide +kernel) rfl rfl .nil) (fun e_ => .inl ⟨rfl, V1.t (V1.load1 one_3 rfl (.own (by repeat (first | exact Find.here | assumption | apply Find.there | apply Find.far)) (by rfl))) ⟨rfl, rfl⟩⟩) ?_
            refine Det.cons 8 (ins := [(12, _)]) (.old (by (conv => lhs; whnf) <;> rfl) (by decide +kernel) .nil) (fun e_ => .inl ⟨rfl, V1.t (V1.move' (by (conv => lhs; whnf) <;> rfl)) ⟨rfl, rfl⟩⟩) ?_
            refine Det.cons 9 (ins := [(158, _), (160, _), (161, _)]) (v := w64 (turnR 32 (LS.getD (j + 1) 0) 18)) (.new 5 3 (by decide +kernel) rfl rfl (.new 7 1 (by decide +kernel) rfl rfl (.new 8 0 (by decide +kernel) rfl rfl .nil))) (fun e_ => .inl ⟨rfl, ?_⟩) ?_
            · refine T1.call0 has_42 rfl (fun w hs => turn_any (LS.getD (j + 1) 0) 18 32 w (by decide) (by decide)) (fun v hv => ?_)
              subst hv
              exact ⟨rfl, rfl⟩
            refine Det.cons 10 (ins := [(18, _)]) (.old (by (conv => lhs; whnf) <;> rfl) (by decide +kernel) .nil) (fun e_ => .inl ⟨rfl, V1.t (V1.move' (by (conv => lhs; whnf) <;> rfl)) ⟨rfl, rfl⟩⟩) ?_
            refine Det.cons 11 (ins := [(13, _)]) (.old (by (conv => lhs; whnf) <;> rfl) (by decide +kernel) .nil) (fun e_ => .inl ⟨rfl, V1.t (V1.indexAddrA ty_94 sz_3 rfl rfl (by decide) (by decide)) ⟨rfl, rfl⟩⟩) ?_
            refine Det.cons 12 (ins := [(164, _)]) (.new 11 0 (by decide +kernel) rfl rfl .nil) (fun e_ => .inl ⟨rfl, V1.t (V1.load1 one_3 rfl (.own (by repeat (first | exact Find.here | assumption | apply Find.there | apply Find.far)) (by rfl))) ⟨rfl, rfl⟩⟩) ?_
            refine Det.cons 13 (ins := [(165, _)]) (v := w64 (pw 3)) (.new 12 0 (by decide +kernel) rfl rfl .nil) (fun e_ => .inl ⟨rfl, ?_⟩) ?_
            · refine T1.call0 has_43 rfl (fun w hs => power_any 3 w (by decide)) (fun v hv => ?_)
              subst hv
              exact ⟨rfl, rfl⟩
            refine Det.cons 14 (ins := [(163, _), (166, _)]) (.new 10 3 (by decide +kernel) rfl rfl (.new 13 0 (by decide +kernel) rfl rfl .nil)) (fun e_ => .inl ⟨rfl, V1.t (V1.quoW u64U rfl rfl (pw_ne (by decide))) ⟨rfl, rfl⟩⟩) ?_
            refine Det.cons 15 (ins := [(157, _), (162, _), (167, _)]) (v := w64 ((turnR 32 (LS.getD (j + 1) 0) 7) ^^^ (turnR 32 (LS.getD (j + 1) 0) 18) ^^^ (LS.getD (j + 1) 0 / pw 3))) (.new 4 10 (by decide +kernel) rfl rfl (.new 9 5 (by decide +kernel) rfl rfl (.new 14 0 (by decide +kernel) rfl rfl .nil))) (fun e_ => .inl ⟨rfl, ?_⟩) ?_
            · refine T1.call0 has_41 rfl (fun w hs => mixed_any (turnR 32 (LS.getD (j + 1) 0) 7) (turnR 32 (LS.getD (j + 1) 0) 18) (LS.getD (j + 1) 0 / pw 3) w) (fun v hv => ?_)
              subst hv
              exact ⟨rfl, rfl⟩
            refine Det.cons 16 (ins := [(168, _)]) (.new 15 0 (by decide +kernel) rfl rfl .nil) (fun e_ => .inl ⟨rfl, V1.t (V1.assign' (by (conv => lhs; whnf) <;> rfl)) ⟨rfl, rfl⟩⟩) ?_
            refine Det.nil 17 (l := [(3, _), (5, _), (6, _), (10, _), (11, _), (12, _), (13, _), (14, _), (15, _), (16, _), (19, _), (20, _)]) (.old (by (conv => lhs; whnf) <;> rfl) (by decide +kernel) (.old (by (conv => lhs; whnf) <;> rfl) (by decide +kernel) (.old (by (conv => lhs; whnf) <;> rfl) (by decide +kernel) (.old (by (conv => lhs; whnf) <;> rfl) (by decide +kernel) (.old (by (conv => lhs; whnf) <;> rfl) (by decide +kernel) (.old (by (conv => lhs; whnf) <;> rfl) (by decide +kernel) (.old (by (conv => lhs; whnf) <;> rfl) (by decide +kernel) (.old (by (conv => lhs; whnf) <;> rfl) (by decide +kernel) (.old (by (conv => lhs; whnf) <;> rfl) (by decide +kernel) (.old (by (conv => lhs; whnf) <;> rfl) (by decide +kernel) (.old (by (conv => lhs; whnf) <;> rfl) (by decide +kernel) (.new 16 0 (by decide +kernel) rfl rfl .nil)))))))))))) (fun e_ => ?_)
            refine T.seq ?_
            refine T.drawDet' mixed (by decide +kernel) ?_
            refine Det.cons 0 (ins := [(19, _)]) (.old (by (conv => lhs; whnf) <;> rfl) (by decide +kernel) .nil) (fun e_ => .inl ⟨rfl, V1.t (V1.move' (by (conv => lhs; whnf) <;> rfl)) ⟨rfl, rfl⟩⟩) ?_
            refine Det.cons 1 (ins := [(13, _)]) (.old (by (conv => lhs; whnf) <;> rfl) (by decide +kernel) .nil) (fun e_ => .inl ⟨rfl, V1.t (V1.indexAddrA ty_94 sz_3 rfl rfl (by decide) (by decide)) ⟨rfl, rfl⟩⟩) ?_
            refine Det.cons 2 (ins := [(170, _)]) (.new 1 0 (by decide +kernel) rfl rfl .nil) (fun e_ => .inl ⟨rfl, V1.t (V1.load1 one_3 rfl (.own (by repeat (first | exact Find.here | assumption | apply Find.there | apply Find.far)) (by rfl))) ⟨rfl, rfl⟩⟩) ?_
            refine Det.cons 3 (ins := [(12, _)]) (.old (by (conv => lhs; whnf) <;> rfl) (by decide +kernel) .nil) (fun e_ => .inl ⟨rfl, V1.t (V1.move' (by (conv => lhs; whnf) <;> rfl)) ⟨rfl, rfl⟩⟩) ?_
            refine Det.cons 4 (ins := [(169, _), (171, _), (172, _)]) (v := w64 (turnR 32 (LS.getD (j + 14) 0) 17)) (.new 0 3 (by decide +kernel) rfl rfl (.new 2 1 (by decide +kernel) rfl rfl (.new 3 0 (by decide +kernel) rfl rfl .nil))) (fun e_ => .inl ⟨rfl, ?_⟩) ?_
            · refine T1.call0 has_42 rfl (fun w hs => turn_any (LS.getD (j + 14) 0) 17 32 w (by decide) (by decide)) (fun v hv => ?_)
              subst hv
              exact ⟨rfl, rfl⟩
            refine Det.cons 5 (ins := [(19, _)]) (.old (by (conv => lhs; whnf) <;> rfl) (by decide +kernel) .nil) (fun e_ => .inl ⟨rfl, V1.t (V1.move' (by (conv => lhs; whnf) <;> rfl)) ⟨rfl, rfl⟩⟩) ?_
            refine Det.cons 6 (ins := [(13, _)]) (.old (by (conv => lhs; whnf) <;> rfl) (by decide +kernel) .nil) (fun e_ => .inl ⟨rfl, V1.t (V1.indexAddrA ty_94 sz_3 rfl rfl (by decide) (by decide)) ⟨rfl, rfl⟩⟩) ?_
            refine Det.cons 7 (ins := [(175, _)]) (.new 6 0 (by decide +kernel) rfl rfl .nil) (fun e_ => .inl ⟨rfl, V1.t (V1.load1 one_3 rfl (.own (by repeat (first | exact Find.here | assumption | apply Find.there | apply Find.far)) (by rfl))) ⟨rfl, rfl⟩⟩) ?_
            refine Det.cons 8 (ins := [(12, _)]) (.old (by (conv => lhs; whnf) <;> rfl) (by decide +kernel) .nil) (fun e_ => .inl ⟨rfl, V1.t (V1.move' (by (conv => lhs; whnf) <;> rfl)) ⟨rfl, rfl⟩⟩) ?_
            refine Det.cons 9 (ins := [(174, _), (176, _), (177, _)]) (v := w64 (turnR 32 (LS.getD (j + 14) 0) 19)) (.new 5 3 (by decide +kernel) rfl rfl (.new 7 1 (by decide +kernel) rfl rfl (.new 8 0 (by decide +kernel) rfl rfl .nil))) (fun e_ => .inl ⟨rfl, ?_⟩) ?_
            · refine T1.call0 has_42 rfl (fun w hs => turn_any (LS.getD (j + 14) 0) 19 32 w (by decide) (by decide)) (fun v hv => ?_)
              subst hv
              exact ⟨rfl, rfl⟩
            refine Det.cons 10 (ins := [(19, _)]) (.old (by (conv => lhs; whnf) <;> rfl) (by decide +kernel) .nil) (fun e_ => .inl ⟨rfl, V1.t (V1.move' (by (conv => lhs; whnf) <;> rfl)) ⟨rfl, rfl⟩⟩) ?_
            refine Det.cons 11 (ins := [(13, _)]) (.old (by (conv => lhs; whnf) <;> rfl) (by decide +kernel) .nil) (fun e_ => .inl ⟨rfl, V1.t (V1.indexAddrA ty_94 sz_3 rfl rfl (by decide) (by decide)) ⟨rfl, rfl⟩⟩) ?_
            refine Det.cons 12 (ins := [(180, _)]) (.new 11 0 (by decide +kernel) rfl rfl .nil) (fun e_ => .inl ⟨rfl, V1.t (V1.load1 one_3 rfl (.own (by repeat (first | exact Find.here | assumption | apply Find.there | apply Find.far)) (by rfl))) ⟨rfl, rfl⟩⟩) ?_
            refine Det.cons 13 (ins := [(181, _)]) (v := w64 (pw 10)) (.new 12 0 (by decide +kernel) rfl rfl .nil) (fun e_ => .inl ⟨rfl, ?_⟩) ?_
            · refine T1.call0 has_43 rfl (fun w hs => power_any 10 w (by decide)) (fun v hv => ?_)
              subst hv
              exact ⟨rfl, rfl⟩
            refine Det.cons 14 (ins := [(179, _), (182, _)]) (.new 10 3 (by decide +kernel) rfl rfl (.new 13 0 (by decide +kernel) rfl rfl .nil)) (fun e_ => .inl ⟨rfl, V1.t (V1.quoW u64U rfl rfl (pw_ne (by decide))) ⟨rfl, rfl⟩⟩) ?_
            refine Det.cons 15 (ins := [(173, _), (178, _), (183, _)]) (v := w64 ((turnR 32 (LS.getD (j + 14) 0) 17) ^^^ (turnR 32 (LS.getD (j + 14) 0) 19) ^^^ (LS.getD (j + 14) 0 / pw 10))) (.new 4 10 (by decide +kernel) rfl rfl (.new 9 5 (by decide +kernel) rfl rfl (.new 14 0 (by decide +kernel) rfl rfl .nil))) (fun e_ => .inl ⟨rfl, ?_⟩) ?_
            · refine T1.call0 has_41 rfl (fun w hs => mixed_any (turnR 32 (LS.getD (j + 14) 0) 17) (turnR 32 (LS.getD (j + 14) 0) 19) (LS.getD (j + 14) 0 / pw 10) w) (fun v hv => ?_)
              subst hv
              exact ⟨rfl, rfl⟩
            refine Det.cons 16 (ins := [(184, _)]) (.new 15 0 (by decide +kernel) rfl rfl .nil) (fun e_ => .inl ⟨rfl, V1.t (V1.assign' (by (conv => lhs; whnf) <;> rfl)) ⟨rfl, rfl⟩⟩) ?_
            refine Det.nil 17 (l := [(3, _), (5, _), (6, _), (10, _), (11, _), (12, _), (13, _), (14, _), (15, _), (16, _), (20, _), (21, _)]) (.old (by (conv => lhs; whnf) <;> rfl) (by decide +kernel) (.old (by (conv => lhs; whnf) <;> rfl) (by decide +kernel) (.old (by (conv => lhs; whnf) <;> rfl) (by decide +kernel) (.old (by (conv => lhs; whnf) <;> rfl) (by decide +kernel) (.old (by (conv => lhs; whnf) <;> rfl) (by decide +kernel) (.old (by (conv => lhs; whnf) <;> rfl) (by decide +kernel) (.old (by (conv => lhs; whnf) <;> rfl) (by decide +kernel) (.old (by (conv => lhs; whnf) <;> rfl) (by decide +kernel) (.old (by (conv => lhs; whnf) <;> rfl) (by decide +kernel) (.old (by (conv => lhs; whnf) <;> rfl) (by decide +kernel) (.old (by (conv => lhs; whnf) <;> rfl) (by decide +kernel) (.new 16 0 (by decide +kernel) rfl rfl .nil)))))))))))) (fun e_ => ?_)
            refine T.drawTail 19 mixed (by decide +kernel) (by rfl) (by decide +kernel) rfl ?_
            refine Det.cons 0 (ins := [(15, _)]) (.old (by (conv => lhs; whnf) <;> rfl) (by decide +kernel) .nil) (fun e_ => .inl ⟨rfl, V1.t (V1.move' (by (conv => lhs; whnf) <;> rfl)) ⟨rfl, rfl⟩⟩) ?_
            refine Det.cons 1 (ins := [(16, _)]) (.old (by (conv => lhs; whnf) <;> rfl) (by decide +kernel) .nil) (fun e_ => .inl ⟨rfl, V1.t (V1.move' (by (conv => lhs; whnf) <;> rfl)) ⟨rfl, rfl⟩⟩) ?_
            refine Det.cons 2 (ins := [(15, _)]) (.old (by (conv => lhs; whnf) <;> rfl) (by decide +kernel) .nil) (fun e_ => .inl ⟨rfl, V1.t (V1.move' (by (conv => lhs; whnf) <;> rfl)) ⟨rfl, rfl⟩⟩) ?_
            refine Det.cons 3 (ins := [(16, _)]) (.old (by (conv => lhs; whnf) <;> rfl) (by decide +kernel) .nil) (fun e_ => .inl ⟨rfl, V1.t (V1.move' (by (conv => lhs; whnf) <;> rfl)) ⟨rfl, rfl⟩⟩) ?_
            refine Det.cons 4 (ins := [(188, _)]) (.new 3 0 (by decide +kernel) rfl rfl .nil) (fun e_ => .inl ⟨rfl, V1.t (V1.sub rfl rfl (c := ((j : Nat) : Int)) (by rw [wrap_i64 _ (by omega) (by omega)]; omega)) ⟨rfl, rfl⟩⟩) ?_
            refine Det.cons 5 (ins := [(187, _), (189, _)]) (.new 2 2 (by decide +kernel) rfl rfl (.new 4 0 (by decide +kernel) rfl rfl .nil)) (fun e_ => .inl ⟨rfl, V1.t (V1.indexAddrS ty_93 sz_32 rfl rfl (by omega) (by omega)) ⟨rfl, rfl⟩⟩) ?_
            refine Det.cons 6 (ins := [(190, _)]) (.new 5 0 (by decide +kernel) rfl rfl .nil) (fun e_ => .inl ⟨rfl, V1.t (V1.load1 one_32 rfl (show Rd _ _ ⟨b109, 0 + (j) * 1, none⟩ (w64 (LS.getD (j) 0)) from by rw [Nat.mul_one]; exact Rd.at (by repeat (first | exact Find.here | assumption | apply Find.there | apply Find.far)) (ls_get (by omega)))) ⟨rfl, rfl⟩⟩) ?_
            refine Det.cons 7 (ins := [(20, _)]) (.old (by (conv => lhs; whnf) <;> rfl) (by decide +kernel) .nil) (fun e_ => .inl ⟨rfl, V1.t (V1.move' (by (conv => lhs; whnf) <;> rfl)) ⟨rfl, rfl⟩⟩) ?_
            refine Det.cons 8 (ins := [(191, _), (192, _)]) (.new 6 1 (by decide +kernel) rfl rfl (.new 7 0 (by decide +kernel) rfl rfl .nil)) (fun e_ => .inl ⟨rfl, V1.t (V1.addW u64U rfl rfl) ⟨rfl, rfl⟩⟩) ?_
            refine Det.cons 9 (ins := [(15, _)]) (.old (by (conv => lhs; whnf) <;> rfl) (by decide +kernel) .nil) (fun e_ => .inl ⟨rfl, V1.t (V1.move' (by (conv => lhs; whnf) <;> rfl)) ⟨rfl, rfl⟩⟩) ?_
            refine Det.cons 10 (ins := [(16, _)]) (.old (by (conv => lhs; whnf) <;> rfl) (by decide +kernel) .nil) (fun e_ => .inl ⟨rfl, V1.t (V1.move' (by (conv => lhs; whnf) <;> rfl)) ⟨rfl, rfl⟩⟩) ?_
            refine Det.cons 11 (ins := [(195, _)]) (.new 10 0 (by decide +kernel) rfl rfl .nil) (fun e_ => .inl ⟨rfl, V1.t (V1.sub rfl rfl (c := ((j + 9 : Nat) : Int)) (by rw [wrap_i64 _ (by omega) (by omega)]; omega)) ⟨rfl, rfl⟩⟩) ?_
            refine Det.cons 12 (ins := [(194, _), (196, _)]) (.new 9 2 (by decide +kernel) rfl rfl (.new 11 0 (by decide +kernel) rfl rfl .nil)) (fun e_ => .inl ⟨rfl, V1.t (V1.indexAddrS ty_93 sz_32 rfl rfl (by omega) (by omega)) ⟨rfl, rfl⟩⟩) ?_
            refine Det.cons 13 (ins := [(197, _)]) (.new 12 0 (by decide +kernel) rfl rfl .nil) (fun e_ => .inl ⟨rfl, V1.t (V1.load1 one_32 rfl (show Rd _ _ ⟨b109, 0 + (j + 9) * 1, none⟩ (w64 (LS.getD (j + 9) 0)) from by rw [Nat.mul_one]; exact Rd.at (by repeat (first | exact Find.here | assumption | apply Find.there | apply Find.far)) (ls_get (by omega)))) ⟨rfl, rfl⟩⟩) ?_
            refine Det.cons 14 (ins := [(193, _), (198, _)]) (.new 8 5 (by decide +kernel) rfl rfl (.new 13 0 (by decide +kernel) rfl rfl .nil)) (fun e_ => .inl ⟨rfl, V1.t (V1.addW u64U rfl rfl) ⟨rfl, rfl⟩⟩) ?_
            refine Det.cons 15 (ins := [(21, _)]) (.old (by (conv => lhs; whnf) <;> rfl) (by decide +kernel) .nil) (fun e_ => .inl ⟨rfl, V1.t (V1.move' (by (conv => lhs; whnf) <;> rfl)) ⟨rfl, rfl⟩⟩) ?_
            refine Det.cons 16 (ins := [(199, _), (200, _)]) (.new 14 1 (by decide +kernel) rfl rfl (.new 15 0 (by decide +kernel) rfl rfl .nil)) (fun e_ => .inl ⟨rfl, V1.t (V1.addW u64U rfl rfl) ⟨rfl, rfl⟩⟩) ?_
            refine Det.cons 17 (ins := [(12, _)]) (.old (by (conv => lhs; whnf) <;> rfl) (by decide +kernel) .nil) (fun e_ => .inl ⟨rfl, V1.t (V1.move' (by (conv => lhs; whnf) <;> rfl)) ⟨rfl, rfl⟩⟩) ?_
            refine Det.cons 18 (ins := [(201, _), (202, _)]) (v := w64 (keepR 32 (LS.getD j 0 + lowR T256 (LS.getD (j + 1) 0) + LS.getD (j + 9) 0 + highR T256 (LS.getD (j + 14) 0)))) (.new 16 1 (by decide +kernel) rfl rfl (.new 17 0 (by decide +kernel) rfl rfl .nil)) (fun e_ => .inl ⟨rfl, ?_⟩) ?_
            · refine T1.call0 has_44 rfl (fun w hs => keep_any (LS.getD j 0 + lowR T256 (LS.getD (j + 1) 0) + LS.getD (j + 9) 0 + highR T256 (LS.getD (j + 14) 0)) 32 w (by decide)) (fun v hv => ?_)
              subst hv
              exact ⟨rfl, rfl⟩
            refine Det.nil 19 (l := [(3, _), (5, _), (6, _), (10, _), (11, _), (12, _), (13, _), (14, _), (15, _), (16, _), (185, _), (186, _), (203, _)]) (.old (by (conv => lhs; whnf) <;> rfl) (by decide +kernel) (.old (by (conv => lhs; whnf) <;> rfl) (by decide +kernel) (.old (by (conv => lhs; whnf) <;> rfl) (by decide +kernel) (.old (by (conv => lhs; whnf) <;> rfl) (by decide +kernel) (.old (by (conv => lhs; whnf) <;> rfl) (by decide +kernel) (.old (by (conv => lhs; whnf) <;> rfl) (by decide +kernel) (.old (by (conv => lhs; whnf) <;> rfl) (by decide +kernel) (.old (by (conv => lhs; whnf) <;> rfl) (by decide +kernel) (.old (by (conv => lhs; whnf) <;> rfl) (by decide +kernel) (.old (by (conv => lhs; whnf) <;> rfl) (by decide +kernel) (.new 0 18 (by decide +kernel) rfl rfl (.new 1 17 (by decide +kernel) rfl rfl (.new 18 0 (by decide +kernel) rfl rfl .nil))))))))))))) (fun e_ => ?_)
            refine (show TU _ _ _ 2 _ _ _ from ?_)
            refine TU.one 19 (by decide +kernel) rfl rfl (V1.t (V1.indexAddrS ty_93 sz_32 rfl rfl (by omega) (by omega)) ?_)
            refine TU.one 20 (by decide +kernel) rfl rfl (T1.storeE (o := 0 + (16 + j) * 1) (cells := LS.map w64 ++ List.replicate (64 - (16 + j)) (.int .u64 0)) (cells' := (LS ++ [nextR T256 (LS.getD j 0) (LS.getD (j + 1) 0) (LS.getD (j + 9) 0) (LS.getD (j + 14) 0)]).map w64 ++ List.replicate (64 - (16 + j + 1)) (.int .u64 0)) rfl rfl sz_32 rfl (by rw [show 0 + (16 + j) * 1 - 0 = 16 + j from by omega]; exact rep_set hl (by omega)) (by repeat (first | exact Sub.one | apply Sub.there | apply Sub.far)) (Nat.zero_le _) (by rw [List.length_append, List.length_map, List.length_replicate]; omega) ?_)
            refine TU.done (by decide +kernel) ?_
            refine T.region ?_
            refine TL.cons rfl (V1.t (V1.move' (by (conv => lhs; whnf) <;> rfl)) ?_)
            refine TL.cons rfl (V1.t (V1.add rfl rfl (wrap_i64 _ (by omega) (by omega))) ?_)
            refine TL.cons rfl (V1.t (V1.assign' (by (conv => lhs; whnf) <;> rfl)) ?_)
            refine TL.nil ?_
            exact ⟨(16 + j + 1, LS ++ [nextR T256 (LS.getD j 0) (LS.getD (j + 1) 0) (LS.getD (j + 9) 0) (LS.getD (j + 14) 0)]), _, _, (by simp only; omega), (.cons rfl .nil), (.cons rfl (.cons rfl (.cons rfl (.cons rfl (.cons rfl (.cons rfl (.cons rfl (.cons rfl (.cons rfl .nil))))))))), (by repeat (first | exact Take.nil | apply Take.one (by repeat (first | exact Pick.here | apply Pick.there | apply Pick.far)) | apply Take.seg (by repeat (first | exact PickS.last | exact PickS.one | exact PickS.here | exact PickS.nil | apply PickS.there | apply PickS.far)) | exact Take.last (by repeat (first | exact PickS.last | exact PickS.one | exact PickS.here | exact PickS.nil | apply PickS.there | apply PickS.far)))), ⟨rfl, by simp only [List.length_append, List.length_singleton]; omega, by simp only; omega, up_snoc hl hup (by rw [hWi]; exact Up.next ok256 (hup _ (by omega)) (hup _ (by omega)) (hup _ (by omega)) (hup _ (by omega)))⟩⟩
        ·
          try simp only at h24_3
          obtain rfl : i = 64 := by omega
          refine TL.nil ?_
          refine T.cond_f rfl ?_
          refine T.exit ?_
          refine T.seq ?_
          refine T.region ?_
          refine TL.cons rfl (T1.buildSl1 (os := []) ty_93 sz_32 zr_32 (by decide) rfl .nil rfl (ones rfl) (fun b205 => ?_))
          refine TL.cons rfl (V1.t (V1.move' (by (conv => lhs; whnf) <;> rfl)) ?_)
          refine TL.cons rfl (T1.append ty_93 kd_93 sz_32 by_32 zr_32 rfl (by decide) (by decide) rfl rfl (Sl.mk (b := b205) (xs := []) (len := 0) (cap := 0) (size := 0) rfl (Nat.le_refl _) (Nat.le_refl _)) (.sl (n := 8) (RdN.at0 (cells := (stL Sm).map w64) (by repeat (first | exact Find.here | assumption | apply Find.there | apply Find.far))) rfl) (ones rfl) 100 (by simp [stL]) (by omega) (by repeat (first | exact PickS.last | exact PickS.one | exact PickS.here | exact PickS.nil | apply PickS.there | apply PickS.far)) (fun s5 Lss5 hs5 => ?_))
          rw [List.nil_append] at hs5
          refine TL.cons rfl (V1.t (V1.assign' (by (conv => lhs; whnf) <;> rfl)) ?_)
          refine TL.nil ?_
          refine T.seq ?_
          refine T.seq ?_
          refine T.region ?_
          refine TL.cons rfl (V1.t (V1.assign' (by (conv => lhs; whnf) <;> rfl)) ?_)
          refine TL.nil ?_
          refine T.block ?_
          refine T.loopL (σ := Nat × R8 64 × Value × List Blk) (l0 := [(3, _), (5, _), (6, _), (10, _), (11, _), (12, _), (13, _), (14, _), (15, _)]) (fun x => [(23, .int .i64 (x.1 : Nat)), (22, x.2.2.1)]) (fun x L => L = x.2.2.2 ++ (⟨b109, 0, LS.map w64 ++ List.replicate (64 - (64)) (.int .u64 0), 64⟩ :: ⟨bst, ost, (stL Sm).map w64, zst⟩ :: ⟨b13, 0, [.int .i64 7, .int .i64 18, .int .i64 3, .int .i64 17, .int .i64 19, .int .i64 10, .int .i64 2, .int .i64 13, .int .i64 22, .int .i64 6, .int .i64 11, .int .i64 25], 12⟩ :: ⟨bt, 0, tableV, 80⟩ :: ⟨bp, op, pl.map byteV, zp⟩ :: ⟨b3, 0, [.int .i64 32, .int .i64 64, .int .i64 64, .slice (some ⟨bs, 0, none⟩) 8 8, .int .i64 7, .int .i64 18, .int .i64 3, .int .i64 17, .int .i64 19, .int .i64 10, .int .i64 2, .int .i64 13, .int .i64 22, .int .i64 6, .int .i64 11, .int .i64 25], 16⟩ :: ⟨bs, 0, (stL (upInit T256.init)).map w64, 8⟩ :: G) ∧ Sl x.2.2.1 ((stL x.2.1).map w64) 1 x.2.2.2 ∧ UpR x.2.1 (rnds T256 WW (steps T256 T256.init pl m) x.1) ∧ x.1 ≤ 64) (fun x => 64 - x.1) (0, Sm, s5, Lss5) (.cons rfl (.cons rfl .nil)) (.cons (by (conv => lhs; whnf) <;> rfl) (.cons (by (conv => lhs; whnf) <;> rfl) (.cons (by (conv => lhs; whnf) <;> rfl) (.cons (by (conv => lhs; whnf) <;> rfl) (.cons (by (conv => lhs; whnf) <;> rfl) (.cons (by (conv => lhs; whnf) <;> rfl) (.cons (by (conv => lhs; whnf) <;> rfl) (.cons (by (conv => lhs; whnf) <;> rfl) (.cons (by (conv => lhs; whnf) <;> rfl) .nil))))))))) (by repeat (first | exact Take.nil | apply Take.one (by repeat (first | exact Pick.here | apply Pick.there | apply Pick.far)) | apply Take.seg (by repeat (first | exact PickS.last | exact PickS.one | exact PickS.here | exact PickS.nil | apply PickS.there | apply PickS.far)) | exact Take.last (by repeat (first | exact PickS.last | exact PickS.one | exact PickS.here | exact PickS.nil | apply PickS.there | apply PickS.far)))) (⟨rfl, hs5, hS, Nat.zero_le _⟩) ?_
          rintro ⟨i, V, sv, Lv⟩ e_ L ⟨rfl, hsv, hV, hi⟩
          simp only at hsv hV hi
          obtain ⟨bv, ov, cv, zv, rfl, hcv, hzv, rfl⟩ := hsv.block (by simp [stL])
          rw [show ((stL V).map w64).length = 8 from rfl] at hcv ⊢
          dsimp only [List.cons_append, List.nil_append]
          refine T.seq ?_
          refine T.seq ?_
          refine T.region ?_
          refine TL.cons rfl (V1.t (V1.move' (by (conv => lhs; whnf) <;> rfl)) ?_)
          refine TL.cons rfl (V1.t (V1.fieldAddr fl_96_1 rfl) ?_)
          refine TL.cons rfl (V1.t (V1.load1 one_3 rfl (.own (by repeat (first | exact Find.here | assumption | apply Find.there | apply Find.far)) (by rfl))) ?_)
          refine TL.cons rfl (T1.ltI_split rfl rfl (fun h37_3 => ?_) (fun h37_3 => ?_))
          ·
            try simp only at h37_3
            obtain ⟨KV, hKe⟩ : ∃ z, z = Sh.table.getD i 0 / pw 32 := ⟨_, rfl⟩
            have hKV : Up KV (T256.ks i) := by rw [hKe]; exact up_k32 i
            refine TL.nil ?_
            refine T.cond_t rfl ?_
            refine T.skip ?_
            refine T.seq ?_
            refine T.block ?_
            refine T.seq ?_
            refine T.region ?_
            refine TL.cons rfl (V1.t (V1.move' (by (conv => lhs; whnf) <;> rfl)) ?_)
            refine TL.cons rfl (V1.t (V1.move' (by (conv => lhs; whnf) <;> rfl)) ?_)
            refine TL.cons rfl (V1.t (V1.indexAddrS ty_93 sz_32 rfl rfl (by omega) (by omega)) ?_)
            refine TL.cons rfl (V1.t (V1.load1 one_32 rfl (show Rd _ _ ⟨bt, 0 + i * 1, none⟩ (w64 (Sh.table.getD i 0)) from by rw [Nat.mul_one]; exact Rd.at (by repeat (first | exact Find.here | assumption | apply Find.there | apply Find.far)) (tableV_get (by omega)))) ?_)
            refine TL.cons rfl (V1.t (V1.assign' (by (conv => lhs; whnf) <;> rfl)) ?_)
            refine TL.nil ?_
            refine T.seq ?_
            refine T.seq ?_
            refine T.region ?_
            refine TL.cons rfl (V1.t (V1.move' (by (conv => lhs; whnf) <;> rfl)) ?_)
            refine TL.cons rfl (V1.t (V1.eqI rfl rfl (decide_eq_true (by omega))) ?_)
            refine TL.nil ?_
            refine T.cond_t rfl ?_
            refine T.drawDet' mixed (by decide +kernel) ?_
            refine Det.cons 0 (ins := [(10, _)]) (.old (by (conv => lhs; whnf) <;> rfl) (by decide +kernel) .nil) (fun e_ => .inl ⟨rfl, V1.t (V1.move' (by (conv => lhs; whnf) <;> rfl)) ⟨rfl, rfl⟩⟩) ?_
            refine Det.cons 1 (ins := [(23, _)]) (.old (by (conv => lhs; whnf) <;> rfl) (by decide +kernel) .nil) (fun e_ => .inl ⟨rfl, V1.t (V1.move' (by (conv => lhs; whnf) <;> rfl)) ⟨rfl, rfl⟩⟩) ?_
            refine Det.cons 2 (ins := [(220, _), (221, _)]) (.new 0 1 (by decide +kernel) rfl rfl (.new 1 0 (by decide +kernel) rfl rfl .nil)) (fun e_ => .inl ⟨rfl, V1.t (V1.indexAddrS ty_93 sz_32 rfl rfl (by omega) (by omega)) ⟨rfl, rfl⟩⟩) ?_
            refine Det.cons 3 (ins := [(222, _)]) (.new 2 0 (by decide +kernel) rfl rfl .nil) (fun e_ => .inl ⟨rfl, V1.t (V1.load1 one_32 rfl (show Rd _ _ ⟨bt, 0 + i * 1, none⟩ (w64 (Sh.table.getD i 0)) from by rw [Nat.mul_one]; exact Rd.at (by repeat (first | exact Find.here | assumption | apply Find.there | apply Find.far)) (tableV_get (by omega)))) ⟨rfl, rfl⟩⟩) ?_
            refine Det.cons 4 (ins := []) (v := w64 (pw 32)) .nil (fun e_ => .inl ⟨rfl, ?_⟩) ?_
            · refine T1.call0 has_43 rfl (fun w hs => power_any 32 w (by decide)) (fun v hv => ?_)
              subst hv
              exact ⟨rfl, rfl⟩
            refine Det.cons 5 (ins := [(223, _), (224, _)]) (.new 3 1 (by decide +kernel) rfl rfl (.new 4 0 (by decide +kernel) rfl rfl .nil)) (fun e_ => .inl ⟨rfl, V1.t (V1.quoW u64U rfl rfl (pw_ne (by decide))) ⟨rfl, rfl⟩⟩) ?_
            refine Det.cons 6 (ins := [(225, _)]) (.new 5 0 (by decide +kernel) rfl rfl .nil) (fun e_ => .inl ⟨rfl, V1.t (V1.assign' (by (conv => lhs; whnf) <;> rfl)) ⟨rfl, rfl⟩⟩) ?_
            refine Det.nil 7 (l := [(3, _), (5, _), (6, _), (10, _), (11, _), (12, _), (13, _), (14, _), (15, _), (22, _), (23, _), (24, _)]) (.old (by (conv => lhs; whnf) <;> rfl) (by decide +kernel) (.old (by (conv => lhs; whnf) <;> rfl) (by decide +kernel) (.old (by (conv => lhs; whnf) <;> rfl) (by decide +kernel) (.old (by (conv => lhs; whnf) <;> rfl) (by decide +kernel) (.old (by (conv => lhs; whnf) <;> rfl) (by decide +kernel) (.old (by (conv => lhs; whnf) <;> rfl) (by decide +kernel) (.old (by (conv => lhs; whnf) <;> rfl) (by decide +kernel) (.old (by (conv => lhs; whnf) <;> rfl) (by decide +kernel) (.old (by (conv => lhs; whnf) <;> rfl) (by decide +kernel) (.old (by (conv => lhs; whnf) <;> rfl) (by decide +kernel) (.old (by (conv => lhs; whnf) <;> rfl) (by decide +kernel) (.new 6 0 (by decide +kernel) rfl rfl .nil)))))))))))) (fun e_ => ?_)
            refine T.seq ?_
            refine T.drawDet' mixed (by decide +kernel) ?_
            refine Det.cons 0 (ins := [(22, _)]) (.old (by (conv => lhs; whnf) <;> rfl) (by decide +kernel) .nil) (fun e_ => .inl ⟨rfl, V1.t (V1.move' (by (conv => lhs; whnf) <;> rfl)) ⟨rfl, rfl⟩⟩) ?_
            refine Det.cons 1 (ins := [(226, _)]) (.new 0 0 (by decide +kernel) rfl rfl .nil) (fun e_ => .inl ⟨rfl, V1.t (V1.indexAddrS ty_93 sz_32 rfl rfl (by decide) (by omega)) ⟨rfl, rfl⟩⟩) ?_
            refine Det.cons 2 (ins := [(227, _)]) (.new 1 0 (by decide +kernel) rfl rfl .nil) (fun e_ => .inl ⟨rfl, V1.t (V1.load1 one_32 rfl (show Rd _ _ ⟨bv, ov + 4, none⟩ (w64 V.e) from Rd.at (by repeat (first | exact Find.here | assumption | apply Find.there | apply Find.far)) rfl)) ⟨rfl, rfl⟩⟩) ?_
            refine Det.cons 3 (ins := [(22, _)]) (.old (by (conv => lhs; whnf) <;> rfl) (by decide +kernel) .nil) (fun e_ => .inl ⟨rfl, V1.t (V1.move' (by (conv => lhs; whnf) <;> rfl)) ⟨rfl, rfl⟩⟩) ?_
            refine Det.cons 4 (ins := [(229, _)]) (.new 3 0 (by decide +kernel) rfl rfl .nil) (fun e_ => .inl ⟨rfl, V1.t (V1.indexAddrS ty_93 sz_32 rfl rfl (by decide) (by omega)) ⟨rfl, rfl⟩⟩) ?_
            refine Det.cons 5 (ins := [(230, _)]) (.new 4 0 (by decide +kernel) rfl rfl .nil) (fun e_ => .inl ⟨rfl, V1.t (V1.load1 one_32 rfl (show Rd _ _ ⟨bv, ov + 5, none⟩ (w64 V.f) from Rd.at (by repeat (first | exact Find.here | assumption | apply Find.there | apply Find.far)) rfl)) ⟨rfl, rfl⟩⟩) ?_
            refine Det.cons 6 (ins := [(228, _), (231, _)]) (.new 2 3 (by decide +kernel) rfl rfl (.new 5 0 (by decide +kernel) rfl rfl .nil)) (fun e_ => .inl ⟨rfl, V1.t (V1.andW u64U rfl rfl) ⟨rfl, rfl⟩⟩) ?_
            refine Det.cons 7 (ins := [(22, _)]) (.old (by (conv => lhs; whnf) <;> rfl) (by decide +kernel) .nil) (fun e_ => .inl ⟨rfl, V1.t (V1.move' (by (conv => lhs; whnf) <;> rfl)) ⟨rfl, rfl⟩⟩) ?_
            refine Det.cons 8 (ins := [(233, _)]) (.new 7 0 (by decide +kernel) rfl rfl .nil) (fun e_ => .inl ⟨rfl, V1.t (V1.indexAddrS ty_93 sz_32 rfl rfl (by decide) (by omega)) ⟨rfl, rfl⟩⟩) ?_
            refine Det.cons 9 (ins := [(234, _)]) (.new 8 0 (by decide +kernel) rfl rfl .nil) (fun e_ => .inl ⟨rfl, V1.t (V1.load1 one_32 rfl (show Rd _ _ ⟨bv, ov + 4, none⟩ (w64 V.e) from Rd.at (by repeat (first | exact Find.here | assumption | apply Find.there | apply Find.far)) rfl)) ⟨rfl, rfl⟩⟩) ?_
            refine Det.cons 10 (ins := [(235, _)]) (.new 9 0 (by decide +kernel) rfl rfl .nil) (fun e_ => .inl ⟨rfl, V1.t (V1.subW (a := 18446744073709551615#64) u64U rfl rfl) ⟨rfl, rfl⟩⟩) ?_
            refine Det.cons 11 (ins := [(12, _)]) (.old (by (conv => lhs; whnf) <;> rfl) (by decide +kernel) .nil) (fun e_ => .inl ⟨rfl, V1.t (V1.move' (by (conv => lhs; whnf) <;> rfl)) ⟨rfl, rfl⟩⟩) ?_
            refine Det.cons 12 (ins := [(236, _), (237, _)]) (v := w64 (keepR 32 (18446744073709551615#64 - V.e))) (.new 10 1 (by decide +kernel) rfl rfl (.new 11 0 (by decide +kernel) rfl rfl .nil)) (fun e_ => .inl ⟨rfl, ?_⟩) ?_
            · refine T1.call0 has_44 rfl (fun w hs => keep_any (18446744073709551615#64 - V.e) 32 w (by decide)) (fun v hv => ?_)
              subst hv
              exact ⟨rfl, rfl⟩
            refine Det.cons 13 (ins := [(22, _)]) (.old (by (conv => lhs; whnf) <;> rfl) (by decide +kernel) .nil) (fun e_ => .inl ⟨rfl, V1.t (V1.move' (by (conv => lhs; whnf) <;> rfl)) ⟨rfl, rfl⟩⟩) ?_
            refine Det.cons 14 (ins := [(239, _)]) (.new 13 0 (by decide +kernel) rfl rfl .nil) (fun e_ => .inl ⟨rfl, V1.t (V1.indexAddrS ty_93 sz_32 rfl rfl (by decide) (by omega)) ⟨rfl, rfl⟩⟩) ?_
            refine Det.cons 15 (ins := [(240, _)]) (.new 14 0 (by decide +kernel) rfl rfl .nil) (fun e_ => .inl ⟨rfl, V1.t (V1.load1 one_32 rfl (show Rd _ _ ⟨bv, ov + 6, none⟩ (w64 V.g) from Rd.at (by repeat (first | exact Find.here | assumption | apply Find.there | apply Find.far)) rfl)) ⟨rfl, rfl⟩⟩) ?_
            refine Det.cons 16 (ins := [(238, _), (241, _)]) (.new 12 3 (by decide +kernel) rfl rfl (.new 15 0 (by decide +kernel) rfl rfl .nil)) (fun e_ => .inl ⟨rfl, V1.t (V1.andW u64U rfl rfl) ⟨rfl, rfl⟩⟩) ?_
            refine Det.cons 17 (ins := [(232, _), (242, _)]) (.new 6 10 (by decide +kernel) rfl rfl (.new 16 0 (by decide +kernel) rfl rfl .nil)) (fun e_ => .inl ⟨rfl, V1.t (V1.orW u64U rfl rfl) ⟨rfl, rfl⟩⟩) ?_
            refine Det.cons 18 (ins := [(243, _)]) (.new 17 0 (by decide +kernel) rfl rfl .nil) (fun e_ => .inl ⟨rfl, V1.t (V1.assign' (by (conv => lhs; whnf) <;> rfl)) ⟨rfl, rfl⟩⟩) ?_
            refine Det.nil 19 (l := [(3, _), (5, _), (6, _), (10, _), (11, _), (12, _), (13, _), (14, _), (15, _), (22, _), (23, _), (24, _), (25, _)]) (.old (by (conv => lhs; whnf) <;> rfl) (by decide +kernel) (.old (by (conv => lhs; whnf) <;> rfl) (by decide +kernel) (.old (by (conv => lhs; whnf) <;> rfl) (by decide +kernel) (.old (by (conv => lhs; whnf) <;> rfl) (by decide +kernel) (.old (by (conv => lhs; whnf) <;> rfl) (by decide +kernel) (.old (by (conv => lhs; whnf) <;> rfl) (by decide +kernel) (.old (by (conv => lhs; whnf) <;> rfl) (by decide +kernel) (.old (by (conv => lhs; whnf) <;> rfl) (by decide +kernel) (.old (by (conv => lhs; whnf) <;> rfl) (by decide +kernel) (.old (by (conv => lhs; whnf) <;> rfl) (by decide +kernel) (.old (by (conv => lhs; whnf) <;> rfl) (by decide +kernel) (.old (by (conv => lhs; whnf) <;> rfl) (by decide +kernel) (.new 18 0 (by decide +kernel) rfl rfl .nil))))))))))))) (fun e_ => ?_)
            refine T.seq ?_
            refine T.drawDet' mixed (by decide +kernel) ?_
            refine Det.cons 0 (ins := [(22, _)]) (.old (by (conv => lhs; whnf) <;> rfl) (by decide +kernel) .nil) (fun e_ => .inl ⟨rfl, V1.t (V1.move' (by (conv => lhs; whnf) <;> rfl)) ⟨rfl, rfl⟩⟩) ?_
            refine Det.cons 1 (ins := [(244, _)]) (.new 0 0 (by decide +kernel) rfl rfl .nil) (fun e_ => .inl ⟨rfl, V1.t (V1.indexAddrS ty_93 sz_32 rfl rfl (by decide) (by omega)) ⟨rfl, rfl⟩⟩) ?_
            refine Det.cons 2 (ins := [(245, _)]) (.new 1 0 (by decide +kernel) rfl rfl .nil) (fun e_ => .inl ⟨rfl, V1.t (V1.load1 one_32 rfl (show Rd _ _ ⟨bv, ov + 0, none⟩ (w64 V.a) from Rd.at (by repeat (first | exact Find.here | assumption | apply Find.there | apply Find.far)) rfl)) ⟨rfl, rfl⟩⟩) ?_
            refine Det.cons 3 (ins := [(22, _)]) (.old (by (conv => lhs; whnf) <;> rfl) (by decide +kernel) .nil) (fun e_ => .inl ⟨rfl, V1.t (V1.move' (by (conv => lhs; whnf) <;> rfl)) ⟨rfl, rfl⟩⟩) ?_
            refine Det.cons 4 (ins := [(247, _)]) (.new 3 0 (by decide +kernel) rfl rfl .nil) (fun e_ => .inl ⟨rfl, V1.t (V1.indexAddrS ty_93 sz_32 rfl rfl (by decide) (by omega)) ⟨rfl, rfl⟩⟩) ?_
            refine Det.cons 5 (ins := [(248, _)]) (.new 4 0 (by decide +kernel) rfl rfl .nil) (fun e_ => .inl ⟨rfl, V1.t (V1.load1 one_32 rfl (show Rd _ _ ⟨bv, ov + 1, none⟩ (w64 V.b) from Rd.at (by repeat (first | exact Find.here | assumption | apply Find.there | apply Find.far)) rfl)) ⟨rfl, rfl⟩⟩) ?_
            refine Det.cons 6 (ins := [(246, _), (249, _)]) (.new 2 3 (by decide +kernel) rfl rfl (.new 5 0 (by decide +kernel) rfl rfl .nil)) (fun e_ => .inl ⟨rfl, V1.t (V1.andW u64U rfl rfl) ⟨rfl, rfl⟩⟩) ?_
            refine Det.cons 7 (ins := [(22, _)]) (.old (by (conv => lhs; whnf) <;> rfl) (by decide +kernel) .nil) (fun e_ => .inl ⟨rfl, V1.t (V1.move' (by (conv => lhs; whnf) <;> rfl)) ⟨rfl, rfl⟩⟩) ?_
            refine Det.cons 8 (ins := [(251, _)]) (.new 7 0 (by decide +kernel) rfl rfl .nil) (fun e_ => .inl ⟨rfl, V1.t (V1.indexAddrS ty_93 sz_32 rfl rfl (by decide) (by omega)) ⟨rfl, rfl⟩⟩) ?_
            refine Det.cons 9 (ins := [(252, _)]) (.new 8 0 (by decide +kernel) rfl rfl .nil) (fun e_ => .inl ⟨rfl, V1.t (V1.load1 one_32 rfl (show Rd _ _ ⟨bv, ov + 0, none⟩ (w64 V.a) from Rd.at (by repeat (first | exact Find.here | assumption | apply Find.there | apply Find.far)) rfl)) ⟨rfl, rfl⟩⟩) ?_
            refine Det.cons 10 (ins := [(22, _)]) (.old (by (conv => lhs; whnf) <;> rfl) (by decide +kernel) .nil) (fun e_ => .inl ⟨rfl, V1.t (V1.move' (by (conv => lhs; whnf) <;> rfl)) ⟨rfl, rfl⟩⟩) ?_
            refine Det.cons 11 (ins := [(254, _)]) (.new 10 0 (by decide +kernel) rfl rfl .nil) (fun e_ => .inl ⟨rfl, V1.t (V1.indexAddrS ty_93 sz_32 rfl rfl (by decide) (by omega)) ⟨rfl, rfl⟩⟩) ?_
            refine Det.cons 12 (ins := [(255, _)]) (.new 11 0 (by decide +kernel) rfl rfl .nil) (fun e_ => .inl ⟨rfl, V1.t (V1.load1 one_32 rfl (show Rd _ _ ⟨bv, ov + 2, none⟩ (w64 V.c) from Rd.at (by repeat (first | exact Find.here | assumption | apply Find.there | apply Find.far)) rfl)) ⟨rfl, rfl⟩⟩) ?_
            refine Det.cons 13 (ins := [(253, _), (256, _)]) (.new 9 3 (by decide +kernel) rfl rfl (.new 12 0 (by decide +kernel) rfl rfl .nil)) (fun e_ => .inl ⟨rfl, V1.t (V1.andW u64U rfl rfl) ⟨rfl, rfl⟩⟩) ?_
            refine Det.cons 14 (ins := [(250, _), (257, _)]) (.new 6 7 (by decide +kernel) rfl rfl (.new 13 0 (by decide +kernel) rfl rfl .nil)) (fun e_ => .inl ⟨rfl, V1.t (V1.orW u64U rfl rfl) ⟨rfl, rfl⟩⟩) ?_
            refine Det.cons 15 (ins := [(22, _)]) (.old (by (conv => lhs; whnf) <;> rfl) (by decide +kernel) .nil) (fun e_ => .inl ⟨rfl, V1.t (V1.move' (by (conv => lhs; whnf) <;> rfl)) ⟨rfl, rfl⟩⟩) ?_
            refine Det.cons 16 (ins := [(259, _)]) (.new 15 0 (by decide +kernel) rfl rfl .nil) (fun e_ => .inl ⟨rfl, V1.t (V1.indexAddrS ty_93 sz_32 rfl rfl (by decide) (by omega)) ⟨rfl, rfl⟩⟩) ?_
            refine Det.cons 17 (ins := [(260, _)]) (.new 16 0 (by decide +kernel) rfl rfl .nil) (fun e_ => .inl ⟨rfl, V1.t (V1.load1 one_32 rfl (show Rd _ _ ⟨bv, ov + 1, none⟩ (w64 V.b) from Rd.at (by repeat (first | exact Find.here | assumption | apply Find.there | apply Find.far)) rfl)) ⟨rfl, rfl⟩⟩) ?_
            refine Det.cons 18 (ins := [(22, _)]) (.old (by (conv => lhs; whnf) <;> rfl) (by decide +kernel) .nil) (fun e_ => .inl ⟨rfl, V1.t (V1.move' (by (conv => lhs; whnf) <;> rfl)) ⟨rfl, rfl⟩⟩) ?_
            refine Det.cons 19 (ins := [(262, _)]) (.new 18 0 (by decide +kernel) rfl rfl .nil) (fun e_ => .inl ⟨rfl, V1.t (V1.indexAddrS ty_93 sz_32 rfl rfl (by decide) (by omega)) ⟨rfl, rfl⟩⟩) ?_
            refine Det.cons 20 (ins := [(263, _)]) (.new 19 0 (by decide +kernel) rfl rfl .nil) (fun e_ => .inl ⟨rfl, V1.t (V1.load1 one_32 rfl (show Rd _ _ ⟨bv, ov + 2, none⟩ (w64 V.c) from Rd.at (by repeat (first | exact Find.here | assumption | apply Find.there | apply Find.far)) rfl)) ⟨rfl, rfl⟩⟩) ?_
            refine Det.cons 21 (ins := [(261, _), (264, _)]) (.new 17 3 (by decide +kernel) rfl rfl (.new 20 0 (by decide +kernel) rfl rfl .nil)) (fun e_ => .inl ⟨rfl, V1.t (V1.andW u64U rfl rfl) ⟨rfl, rfl⟩⟩) ?_
            refine Det.cons 22 (ins := [(258, _), (265, _)]) (.new 14 7 (by decide +kernel) rfl rfl (.new 21 0 (by decide +kernel) rfl rfl .nil)) (fun e_ => .inl ⟨rfl, V1.t (V1.orW u64U rfl rfl) ⟨rfl, rfl⟩⟩) ?_
            refine Det.cons 23 (ins := [(266, _)]) (.new 22 0 (by decide +kernel) rfl rfl .nil) (fun e_ => .inl ⟨rfl, V1.t (V1.assign' (by (conv => lhs; whnf) <;> rfl)) ⟨rfl, rfl⟩⟩) ?_
            refine Det.nil 24 (l := [(3, _), (5, _), (6, _), (10, _), (11, _), (12, _), (13, _), (14, _), (15, _), (22, _), (23, _), (24, _), (25, _), (26, _)]) (.old (by (conv => lhs; whnf) <;> rfl) (by decide +kernel) (.old (by (conv => lhs; whnf) <;> rfl) (by decide +kernel) (.old (by (conv => lhs; whnf) <;> rfl) (by decide +kernel) (.old (by (conv => lhs; whnf) <;> rfl) (by decide +kernel) (.old (by (conv => lhs; whnf) <;> rfl) (by decide +kernel) (.old (by (conv => lhs; whnf) <;> rfl) (by decide +kernel) (.old (by (conv => lhs; whnf) <;> rfl) (by decide +kernel) (.old (by (conv => lhs; whnf) <;> rfl) (by decide +kernel) (.old (by (conv => lhs; whnf) <;> rfl) (by decide +kernel) (.old (by (conv => lhs; whnf) <;> rfl) (by decide +kernel) (.old (by (conv => lhs; whnf) <;> rfl) (by decide +kernel) (.old (by (conv => lhs; whnf) <;> rfl) (by decide +kernel) (.old (by (conv => lhs; whnf) <;> rfl) (by decide +kernel) (.new 23 0 (by decide +kernel) rfl rfl .nil)))))))))))))) (fun e_ => ?_)
            refine T.seq ?_
            refine T.drawDet' mixed (by decide +kernel) ?_
            refine Det.cons 0 (ins := [(22, _)]) (.old (by (conv => lhs; whnf) <;> rfl) (by decide +kernel) .nil) (fun e_ => .inl ⟨rfl, V1.t (V1.move' (by (conv => lhs; whnf) <;> rfl)) ⟨rfl, rfl⟩⟩) ?_
            refine Det.cons 1 (ins := [(267, _)]) (.new 0 0 (by decide +kernel) rfl rfl .nil) (fun e_ => .inl ⟨rfl, V1.t (V1.indexAddrS ty_93 sz_32 rfl rfl (by decide) (by omega)) ⟨rfl, rfl⟩⟩) ?_
            refine Det.cons 2 (ins := [(268, _)]) (.new 1 0 (by decide +kernel) rfl rfl .nil) (fun e_ => .inl ⟨rfl, V1.t (V1.load1 one_32 rfl (show Rd _ _ ⟨bv, ov + 7, none⟩ (w64 V.h) from Rd.at (by repeat (first | exact Find.here | assumption | apply Find.there | apply Find.far)) rfl)) ⟨rfl, rfl⟩⟩) ?_
            refine Det.cons 3 (ins := [(22, _)]) (.old (by (conv => lhs; whnf) <;> rfl) (by decide +kernel) .nil) (fun e_ => .inl ⟨rfl, V1.t (V1.move' (by (conv => lhs; whnf) <;> rfl)) ⟨rfl, rfl⟩⟩) ?_
            refine Det.cons 4 (ins := [(270, _)]) (.new 3 0 (by decide +kernel) rfl rfl .nil) (fun e_ => .inl ⟨rfl, V1.t (V1.indexAddrS ty_93 sz_32 rfl rfl (by decide) (by omega)) ⟨rfl, rfl⟩⟩) ?_
            refine Det.cons 5 (ins := [(271, _)]) (.new 4 0 (by decide +kernel) rfl rfl .nil) (fun e_ => .inl ⟨rfl, V1.t (V1.load1 one_32 rfl (show Rd _ _ ⟨bv, ov + 4, none⟩ (w64 V.e) from Rd.at (by repeat (first | exact Find.here | assumption | apply Find.there | apply Find.far)) rfl)) ⟨rfl, rfl⟩⟩) ?_
            refine Det.cons 6 (ins := [(13, _)]) (.old (by (conv => lhs; whnf) <;> rfl) (by decide +kernel) .nil) (fun e_ => .inl ⟨rfl, V1.t (V1.indexAddrA ty_94 sz_3 rfl rfl (by decide) (by decide)) ⟨rfl, rfl⟩⟩) ?_
            refine Det.cons 7 (ins := [(273, _)]) (.new 6 0 (by decide +kernel) rfl rfl .nil) (fun e_ => .inl ⟨rfl, V1.t (V1.load1 one_3 rfl (.own (by repeat (first | exact Find.here | assumption | apply Find.there | apply Find.far)) (by rfl))) ⟨rfl, rfl⟩⟩) ?_
            refine Det.cons 8 (ins := [(12, _)]) (.old (by (conv => lhs; whnf) <;> rfl) (by decide +kernel) .nil) (fun e_ => .inl ⟨rfl, V1.t (V1.move' (by (conv => lhs; whnf) <;> rfl)) ⟨rfl, rfl⟩⟩) ?_
            refine Det.cons 9 (ins := [(272, _), (274, _), (275, _)]) (v := w64 (turnR 32 (V.e) 6)) (.new 5 3 (by decide +kernel) rfl rfl (.new 7 1 (by decide +kernel) rfl rfl (.new 8 0 (by decide +kernel) rfl rfl .nil))) (fun e_ => .inl ⟨rfl, ?_⟩) ?_
            · refine T1.call0 has_42 rfl (fun w hs => turn_any (V.e) 6 32 w (by decide) (by decide)) (fun v hv => ?_)
              subst hv
              exact ⟨rfl, rfl⟩
            refine Det.cons 10 (ins := [(22, _)]) (.old (by (conv => lhs; whnf) <;> rfl) (by decide +kernel) .nil) (fun e_ => .inl ⟨rfl, V1.t (V1.move' (by (conv => lhs; whnf) <;> rfl)) ⟨rfl, rfl⟩⟩) ?_
            refine Det.cons 11 (ins := [(277, _)]) (.new 10 0 (by decide +kernel) rfl rfl .nil) (fun e_ => .inl ⟨rfl, V1.t (V1.indexAddrS ty_93 sz_32 rfl rfl (by decide) (by omega)) ⟨rfl, rfl⟩⟩) ?_
            refine Det.cons 12 (ins := [(278, _)]) (.new 11 0 (by decide +kernel) rfl rfl .nil) (fun e_ => .inl ⟨rfl, V1.t (V1.load1 one_32 rfl (show Rd _ _ ⟨bv, ov + 4, none⟩ (w64 V.e) from Rd.at (by repeat (first | exact Find.here | assumption | apply Find.there | apply Find.far)) rfl)) ⟨rfl, rfl⟩⟩) ?_
            refine Det.cons 13 (ins := [(13, _)]) (.old (by (conv => lhs; whnf) <;> rfl) (by decide +kernel) .nil) (fun e_ => .inl ⟨rfl, V1.t (V1.indexAddrA ty_94 sz_3 rfl rfl (by decide) (by decide)) ⟨rfl, rfl⟩⟩) ?_
            refine Det.cons 14 (ins := [(280, _)]) (.new 13 0 (by decide +kernel) rfl rfl .nil) (fun e_ => .inl ⟨rfl, V1.t (V1.load1 one_3 rfl (.own (by repeat (first | exact Find.here | assumption | apply Find.there | apply Find.far)) (by rfl))) ⟨rfl, rfl⟩⟩) ?_
            refine Det.cons 15 (ins := [(12, _)]) (.old (by (conv => lhs; whnf) <;> rfl) (by decide +kernel) .nil) (fun e_ => .inl ⟨rfl, V1.t (V1.move' (by (conv => lhs; whnf) <;> rfl)) ⟨rfl, rfl⟩⟩) ?_
            refine Det.cons 16 (ins := [(279, _), (281, _), (282, _)]) (v := w64 (turnR 32 (V.e) 11)) (.new 12 3 (by decide +kernel) rfl rfl (.new 14 1 (by decide +kernel) rfl rfl (.new 15 0 (by decide +kernel) rfl rfl .nil))) (fun e_ => .inl ⟨rfl, ?_⟩) ?_
            · refine T1.call0 has_42 rfl (fun w hs => turn_any (V.e) 11 32 w (by decide) (by decide)) (fun v hv => ?_)
              subst hv
              exact ⟨rfl, rfl⟩
            refine Det.cons 17 (ins := [(22, _)]) (.old (by (conv => lhs; whnf) <;> rfl) (by decide +kernel) .nil) (fun e_ => .inl ⟨rfl, V1.t (V1.move' (by (conv => lhs; whnf) <;> rfl)) ⟨rfl, rfl⟩⟩) ?_
            refine Det.cons 18 (ins := [(284, _)]) (.new 17 0 (by decide +kernel) rfl rfl .nil) (fun e_ => .inl ⟨rfl, V1.t (V1.indexAddrS ty_93 sz_32 rfl rfl (by decide) (by omega)) ⟨rfl, rfl⟩⟩) ?_
            refine Det.cons 19 (ins := [(285, _)]) (.new 18 0 (by decide +kernel) rfl rfl .nil) (fun e_ => .inl ⟨rfl, V1.t (V1.load1 one_32 rfl (show Rd _ _ ⟨bv, ov + 4, none⟩ (w64 V.e) from Rd.at (by repeat (first | exact Find.here | assumption | apply Find.there | apply Find.far)) rfl)) ⟨rfl, rfl⟩⟩) ?_
            refine Det.cons 20 (ins := [(13, _)]) (.old (by (conv => lhs; whnf) <;> rfl) (by decide +kernel) .nil) (fun e_ => .inl ⟨rfl, V1.t (V1.indexAddrA ty_94 sz_3 rfl rfl (by decide) (by decide)) ⟨rfl, rfl⟩⟩) ?_
            refine Det.cons 21 (ins := [(287, _)]) (.new 20 0 (by decide +kernel) rfl rfl .nil) (fun e_ => .inl ⟨rfl, V1.t (V1.load1 one_3 rfl (.own (by repeat (first | exact Find.here | assumption | apply Find.there | apply Find.far)) (by rfl))) ⟨rfl, rfl⟩⟩) ?_
            refine Det.cons 22 (ins := [(12, _)]) (.old (by (conv => lhs; whnf) <;> rfl) (by decide +kernel) .nil) (fun e_ => .inl ⟨rfl, V1.t (V1.move' (by (conv => lhs; whnf) <;> rfl)) ⟨rfl, rfl⟩⟩) ?_
            refine Det.cons 23 (ins := [(286, _), (288, _), (289, _)]) (v := w64 (turnR 32 (V.e) 25)) (.new 19 3 (by decide +kernel) rfl rfl (.new 21 1 (by decide +kernel) rfl rfl (.new 22 0 (by decide +kernel) rfl rfl .nil))) (fun e_ => .inl ⟨rfl, ?_⟩) ?_
            · refine T1.call0 has_42 rfl (fun w hs => turn_any (V.e) 25 32 w (by decide) (by decide)) (fun v hv => ?_)
              subst hv
              exact ⟨rfl, rfl⟩
            refine Det.cons 24 (ins := [(276, _), (283, _), (290, _)]) (v := w64 ((turnR 32 V.e 6) ^^^ (turnR 32 V.e 11) ^^^ (turnR 32 V.e 25))) (.new 9 14 (by decide +kernel) rfl rfl (.new 16 7 (by decide +kernel) rfl rfl (.new 23 0 (by decide +kernel) rfl rfl .nil))) (fun e_ => .inl ⟨rfl, ?_⟩) ?_
            · refine T1.call0 has_41 rfl (fun w hs => mixed_any (turnR 32 V.e 6) (turnR 32 V.e 11) (turnR 32 V.e 25) w) (fun v hv => ?_)
              subst hv
              exact ⟨rfl, rfl⟩
            refine Det.cons 25 (ins := [(269, _), (291, _)]) (.new 2 22 (by decide +kernel) rfl rfl (.new 24 0 (by decide +kernel) rfl rfl .nil)) (fun e_ => .inl ⟨rfl, V1.t (V1.addW u64U rfl rfl) ⟨rfl, rfl⟩⟩) ?_
            refine Det.cons 26 (ins := [(25, _)]) (.old (by (conv => lhs; whnf) <;> rfl) (by decide +kernel) .nil) (fun e_ => .inl ⟨rfl, V1.t (V1.move' (by (conv => lhs; whnf) <;> rfl)) ⟨rfl, rfl⟩⟩) ?_
            refine Det.cons 27 (ins := [(292, _), (293, _)]) (.new 25 1 (by decide +kernel) rfl rfl (.new 26 0 (by decide +kernel) rfl rfl .nil)) (fun e_ => .inl ⟨rfl, V1.t (V1.addW u64U rfl rfl) ⟨rfl, rfl⟩⟩) ?_
            refine Det.cons 28 (ins := [(24, _)]) (.old (by (conv => lhs; whnf) <;> rfl) (by decide +kernel) .nil) (fun e_ => .inl ⟨rfl, V1.t (V1.move' (v := w64 KV) (congrArg w64 hKe.symm)) ⟨rfl, rfl⟩⟩) ?_
            refine Det.cons 29 (ins := [(294, _), (295, _)]) (.new 27 1 (by decide +kernel) rfl rfl (.new 28 0 (by decide +kernel) rfl rfl .nil)) (fun e_ => .inl ⟨rfl, V1.t (V1.addW u64U rfl rfl) ⟨rfl, rfl⟩⟩) ?_
            refine Det.cons 30 (ins := [(15, _)]) (.old (by (conv => lhs; whnf) <;> rfl) (by decide +kernel) .nil) (fun e_ => .inl ⟨rfl, V1.t (V1.move' (by (conv => lhs; whnf) <;> rfl)) ⟨rfl, rfl⟩⟩) ?_
            refine Det.cons 31 (ins := [(23, _)]) (.old (by (conv => lhs; whnf) <;> rfl) (by decide +kernel) .nil) (fun e_ => .inl ⟨rfl, V1.t (V1.move' (by (conv => lhs; whnf) <;> rfl)) ⟨rfl, rfl⟩⟩) ?_
            refine Det.cons 32 (ins := [(297, _), (298, _)]) (.new 30 1 (by decide +kernel) rfl rfl (.new 31 0 (by decide +kernel) rfl rfl .nil)) (fun e_ => .inl ⟨rfl, V1.t (V1.indexAddrS ty_93 sz_32 rfl rfl (by omega) (by omega)) ⟨rfl, rfl⟩⟩) ?_
            refine Det.cons 33 (ins := [(299, _)]) (.new 32 0 (by decide +kernel) rfl rfl .nil) (fun e_ => .inl ⟨rfl, V1.t (V1.load1 one_32 rfl (show Rd _ _ ⟨b109, 0 + i * 1, none⟩ (w64 (LS.getD i 0)) from by rw [Nat.mul_one]; exact Rd.at (by repeat (first | exact Find.here | assumption | apply Find.there | apply Find.far)) (ls_get (by omega)))) ⟨rfl, rfl⟩⟩) ?_
            refine Det.cons 34 (ins := [(296, _), (300, _)]) (.new 29 4 (by decide +kernel) rfl rfl (.new 33 0 (by decide +kernel) rfl rfl .nil)) (fun e_ => .inl ⟨rfl, V1.t (V1.addW u64U rfl rfl) ⟨rfl, rfl⟩⟩) ?_
            refine Det.cons 35 (ins := [(301, _)]) (.new 34 0 (by decide +kernel) rfl rfl .nil) (fun e_ => .inl ⟨rfl, V1.t (V1.assign' (by (conv => lhs; whnf) <;> rfl)) ⟨rfl, rfl⟩⟩) ?_
            refine Det.nil 36 (l := [(3, _), (5, _), (6, _), (10, _), (11, _), (12, _), (13, _), (14, _), (15, _), (22, _), (23, _), (26, _), (27, _)]) (.old (by (conv => lhs; whnf) <;> rfl) (by decide +kernel) (.old (by (conv => lhs; whnf) <;> rfl) (by decide +kernel) (.old (by (conv => lhs; whnf) <;> rfl) (by decide +kernel) (.old (by (conv => lhs; whnf) <;> rfl) (by decide +kernel) (.old (by (conv => lhs; whnf) <;> rfl) (by decide +kernel) (.old (by (conv => lhs; whnf) <;> rfl) (by decide +kernel) (.old (by (conv => lhs; whnf) <;> rfl) (by decide +kernel) (.old (by (conv => lhs; whnf) <;> rfl) (by decide +kernel) (.old (by (conv => lhs; whnf) <;> rfl) (by decide +kernel) (.old (by (conv => lhs; whnf) <;> rfl) (by decide +kernel) (.old (by (conv => lhs; whnf) <;> rfl) (by decide +kernel) (.old (by (conv => lhs; whnf) <;> rfl) (by decide +kernel) (.new 35 0 (by decide +kernel) rfl rfl .nil))))))))))))) (fun e_ => ?_)
            refine T.seq ?_
            refine T.drawDet' mixed (by decide +kernel) ?_
            refine Det.cons 0 (ins := [(22, _)]) (.old (by (conv => lhs; whnf) <;> rfl) (by decide +kernel) .nil) (fun e_ => .inl ⟨rfl, V1.t (V1.move' (by (conv => lhs; whnf) <;> rfl)) ⟨rfl, rfl⟩⟩) ?_
            refine Det.cons 1 (ins := [(302, _)]) (.new 0 0 (by decide +kernel) rfl rfl .nil) (fun e_ => .inl ⟨rfl, V1.t (V1.indexAddrS ty_93 sz_32 rfl rfl (by decide) (by omega)) ⟨rfl, rfl⟩⟩) ?_
            refine Det.cons 2 (ins := [(303, _)]) (.new 1 0 (by decide +kernel) rfl rfl .nil) (fun e_ => .inl ⟨rfl, V1.t (V1.load1 one_32 rfl (show Rd _ _ ⟨bv, ov + 0, none⟩ (w64 V.a) from Rd.at (by repeat (first | exact Find.here | assumption | apply Find.there | apply Find.far)) rfl)) ⟨rfl, rfl⟩⟩) ?_
            refine Det.cons 3 (ins := [(13, _)]) (.old (by (conv => lhs; whnf) <;> rfl) (by decide +kernel) .nil) (fun e_ => .inl ⟨rfl, V1.t (V1.indexAddrA ty_94 sz_3 rfl rfl (by decide) (by decide)) ⟨rfl, rfl⟩⟩) ?_
            refine Det.cons 4 (ins := [(305, _)]) (.new 3 0 (by decide +kernel) rfl rfl .nil) (fun e_ => .inl ⟨rfl, V1.t (V1.load1 one_3 rfl (.own (by repeat (first | exact Find.here | assumption | apply Find.there | apply Find.far)) (by rfl))) ⟨rfl, rfl⟩⟩) ?_
            refine Det.cons 5 (ins := [(12, _)]) (.old (by (conv => lhs; whnf) <;> rfl) (by decide +kernel) .nil) (fun e_ => .inl ⟨rfl, V1.t (V1.move' (by (conv => lhs; whnf) <;> rfl)) ⟨rfl, rfl⟩⟩) ?_
            refine Det.cons 6 (ins := [(304, _), (306, _), (307, _)]) (v := w64 (turnR 32 (V.a) 2)) (.new 2 3 (by decide +kernel) rfl rfl (.new 4 1 (by decide +kernel) rfl rfl (.new 5 0 (by decide +kernel) rfl rfl .nil))) (fun e_ => .inl ⟨rfl, ?_⟩) ?_
            · refine T1.call0 has_42 rfl (fun w hs => turn_any (V.a) 2 32 w (by decide) (by decide)) (fun v hv => ?_)
              subst hv
              exact ⟨rfl, rfl⟩
            refine Det.cons 7 (ins := [(22, _)]) (.old (by (conv => lhs; whnf) <;> rfl) (by decide +kernel) .nil) (fun e_ => .inl ⟨rfl, V1.t (V1.move' (by (conv => lhs; whnf) <;> rfl)) ⟨rfl, rfl⟩⟩) ?_
            refine Det.cons 8 (ins := [(309, _)]) (.new 7 0 (by decide +kernel) rfl rfl .nil) (fun e_ => .inl ⟨rfl, V1.t (V1.indexAddrS ty_93 sz_32 rfl rfl (by decide) (by omega)) ⟨rfl, rfl⟩⟩) ?_
            refine Det.cons 9 (ins := [(310, _)]) (.new 8 0 (by decide +kernel) rfl rfl .nil) (fun e_ => .inl ⟨rfl, V1.t (V1.load1 one_32 rfl (show Rd _ _ ⟨bv, ov + 0, none⟩ (w64 V.a) from Rd.at (by repeat (first | exact Find.here | assumption | apply Find.there | apply Find.far)) rfl)) ⟨rfl, rfl⟩⟩) ?_
            refine Det.cons 10 (ins := [(13, _)]) (.old (by (conv => lhs; whnf) <;> rfl) (by decide +kernel) .nil) (fun e_ => .inl ⟨rfl, V1.t (V1.indexAddrA ty_94 sz_3 rfl rfl (by decide) (by decide)) ⟨rfl, rfl⟩⟩) ?_
            refine Det.cons 11 (ins := [(312, _)]) (.new 10 0 (by decide +kernel) rfl rfl .nil) (fun e_ => .inl ⟨rfl, V1.t (V1.load1 one_3 rfl (.own (by repeat (first | exact Find.here | assumption | apply Find.there | apply Find.far)) (by rfl))) ⟨rfl, rfl⟩⟩) ?_
            refine Det.cons 12 (ins := [(12, _)]) (.old (by (conv => lhs; whnf) <;> rfl) (by decide +kernel) .nil) (fun e_ => .inl ⟨rfl, V1.t (V1.move' (by (conv => lhs; whnf) <;> rfl)) ⟨rfl, rfl⟩⟩) ?_
            refine Det.cons 13 (ins := [(311, _), (313, _), (314, _)]) (v := w64 (turnR 32 (V.a) 13)) (.new 9 3 (by decide +kernel) rfl rfl (.new 11 1 (by decide +kernel) rfl rfl (.new 12 0 (by decide +kernel) rfl rfl .nil))) (fun e_ => .inl ⟨rfl, ?_⟩) ?_
            · refine T1.call0 has_42 rfl (fun w hs => turn_any (V.a) 13 32 w (by decide) (by decide)) (fun v hv => ?_)
              subst hv
              exact ⟨rfl, rfl⟩
            refine Det.cons 14 (ins := [(22, _)]) (.old (by (conv => lhs; whnf) <;> rfl) (by decide +kernel) .nil) (fun e_ => .inl ⟨rfl, V1.t (V1.move' (by (conv => lhs; whnf) <;> rfl)) ⟨rfl, rfl⟩⟩) ?_
            refine Det.cons 15 (ins := [(316, _)]) (.new 14 0 (by decide +kernel) rfl rfl .nil) (fun e_ => .inl ⟨rfl, V1.t (V1.indexAddrS ty_93 sz_32 rfl rfl (by decide) (by omega)) ⟨rfl, rfl⟩⟩) ?_
            refine Det.cons 16 (ins := [(317, _)]) (.new 15 0 (by decide +kernel) rfl rfl .nil) (fun e_ => .inl ⟨rfl, V1.t (V1.load1 one_32 rfl (show Rd _ _ ⟨bv, ov + 0, none⟩ (w64 V.a) from Rd.at (by repeat (first | exact Find.here | assumption | apply Find.there | apply Find.far)) rfl)) ⟨rfl, rfl⟩⟩) ?_
            refine Det.cons 17 (ins := [(13, _)]) (.old (by (conv => lhs; whnf) <;> rfl) (by decide +kernel) .nil) (fun e_ => .inl ⟨rfl, V1.t (V1.indexAddrA ty_94 sz_3 rfl rfl (by decide) (by decide)) ⟨rfl, rfl⟩⟩) ?_
            refine Det.cons 18 (ins := [(319, _)]) (.new 17 0 (by decide +kernel) rfl rfl .nil) (fun e_ => .inl ⟨rfl, V1.t (V1.load1 one_3 rfl (.own (by repeat (first | exact Find.here | assumption | apply Find.there | apply Find.far)) (by rfl))) ⟨rfl, rfl⟩⟩) ?_
            refine Det.cons 19 (ins := [(12, _)]) (.old (by (conv => lhs; whnf) <;> rfl) (by decide +kernel) .nil) (fun e_ => .inl ⟨rfl, V1.t (V1.move' (by (conv => lhs; whnf) <;> rfl)) ⟨rfl, rfl⟩⟩) ?_
            refine Det.cons 20 (ins := [(318, _), (320, _), (321, _)]) (v := w64 (turnR 32 (V.a) 22)) (.new 16 3 (by decide +kernel) rfl rfl (.new 18 1 (by decide +kernel) rfl rfl (.new 19 0 (by decide +kernel) rfl rfl .nil))) (fun e_ => .inl ⟨rfl, ?_⟩) ?_
            · refine T1.call0 has_42 rfl (fun w hs => turn_any (V.a) 22 32 w (by decide) (by decide)) (fun v hv => ?_)
              subst hv
              exact ⟨rfl, rfl⟩
            refine Det.cons 21 (ins := [(308, _), (315, _), (322, _)]) (v := w64 ((turnR 32 V.a 2) ^^^ (turnR 32 V.a 13) ^^^ (turnR 32 V.a 22))) (.new 6 14 (by decide +kernel) rfl rfl (.new 13 7 (by decide +kernel) rfl rfl (.new 20 0 (by decide +kernel) rfl rfl .nil))) (fun e_ => .inl ⟨rfl, ?_⟩) ?_
            · refine T1.call0 has_41 rfl (fun w hs => mixed_any (turnR 32 V.a 2) (turnR 32 V.a 13) (turnR 32 V.a 22) w) (fun v hv => ?_)
              subst hv
              exact ⟨rfl, rfl⟩
            refine Det.cons 22 (ins := [(26, _)]) (.old (by (conv => lhs; whnf) <;> rfl) (by decide +kernel) .nil) (fun e_ => .inl ⟨rfl, V1.t (V1.move' (by (conv => lhs; whnf) <;> rfl)) ⟨rfl, rfl⟩⟩) ?_
            refine Det.cons 23 (ins := [(323, _), (324, _)]) (.new 21 1 (by decide +kernel) rfl rfl (.new 22 0 (by decide +kernel) rfl rfl .nil)) (fun e_ => .inl ⟨rfl, V1.t (V1.addW u64U rfl rfl) ⟨rfl, rfl⟩⟩) ?_
            refine Det.cons 24 (ins := [(325, _)]) (.new 23 0 (by decide +kernel) rfl rfl .nil) (fun e_ => .inl ⟨rfl, V1.t (V1.assign' (by (conv => lhs; whnf) <;> rfl)) ⟨rfl, rfl⟩⟩) ?_
            refine Det.nil 25 (l := [(3, _), (5, _), (6, _), (10, _), (11, _), (12, _), (13, _), (14, _), (15, _), (22, _), (23, _), (27, _), (28, _)]) (.old (by (conv => lhs; whnf) <;> rfl) (by decide +kernel) (.old (by (conv => lhs; whnf) <;> rfl) (by decide +kernel) (.old (by (conv => lhs; whnf) <;> rfl) (by decide +kernel) (.old (by (conv => lhs; whnf) <;> rfl) (by decide +kernel) (.old (by (conv => lhs; whnf) <;> rfl) (by decide +kernel) (.old (by (conv => lhs; whnf) <;> rfl) (by decide +kernel) (.old (by (conv => lhs; whnf) <;> rfl) (by decide +kernel) (.old (by (conv => lhs; whnf) <;> rfl) (by decide +kernel) (.old (by (conv => lhs; whnf) <;> rfl) (by decide +kernel) (.old (by (conv => lhs; whnf) <;> rfl) (by decide +kernel) (.old (by (conv => lhs; whnf) <;> rfl) (by decide +kernel) (.old (by (conv => lhs; whnf) <;> rfl) (by decide +kernel) (.new 24 0 (by decide +kernel) rfl rfl .nil))))))))))))) (fun e_ => ?_)
            refine T.drawTail 30 mixed (by decide +kernel) (by rfl) (by decide +kernel) rfl ?_
            refine Det.cons 0 (ins := [(27, _)]) (.old (by (conv => lhs; whnf) <;> rfl) (by decide +kernel) .nil) (fun e_ => .inl ⟨rfl, V1.t (V1.move' (by (conv => lhs; whnf) <;> rfl)) ⟨rfl, rfl⟩⟩) ?_
            refine Det.cons 1 (ins := [(28, _)]) (.old (by (conv => lhs; whnf) <;> rfl) (by decide +kernel) .nil) (fun e_ => .inl ⟨rfl, V1.t (V1.move' (by (conv => lhs; whnf) <;> rfl)) ⟨rfl, rfl⟩⟩) ?_
            refine Det.cons 2 (ins := [(326, _), (327, _)]) (.new 0 1 (by decide +kernel) rfl rfl (.new 1 0 (by decide +kernel) rfl rfl .nil)) (fun e_ => .inl ⟨rfl, V1.t (V1.addW u64U rfl rfl) ⟨rfl, rfl⟩⟩) ?_
            refine Det.cons 3 (ins := [(12, _)]) (.old (by (conv => lhs; whnf) <;> rfl) (by decide +kernel) .nil) (fun e_ => .inl ⟨rfl, V1.t (V1.move' (by (conv => lhs; whnf) <;> rfl)) ⟨rfl, rfl⟩⟩) ?_
            refine Det.cons 4 (ins := [(328, _), (329, _)]) (v := w64 (keepR 32 ((V.h + (turnR 32 V.e 6 ^^^ turnR 32 V.e 11 ^^^ turnR 32 V.e 25) + ((V.e &&& V.f) ||| (keepR 32 (18446744073709551615#64 - V.e) &&& V.g)) + KV + LS.getD i 0) + ((turnR 32 V.a 2 ^^^ turnR 32 V.a 13 ^^^ turnR 32 V.a 22) + ((V.a &&& V.b) ||| (V.a &&& V.c) ||| (V.b &&& V.c)))))) (.new 2 1 (by decide +kernel) rfl rfl (.new 3 0 (by decide +kernel) rfl rfl .nil)) (fun e_ => .inl ⟨rfl, ?_⟩) ?_
            · refine T1.call0 has_44 rfl (fun w hs => keep_any ((V.h + (turnR 32 V.e 6 ^^^ turnR 32 V.e 11 ^^^ turnR 32 V.e 25) + ((V.e &&& V.f) ||| (keepR 32 (18446744073709551615#64 - V.e) &&& V.g)) + KV + LS.getD i 0) + ((turnR 32 V.a 2 ^^^ turnR 32 V.a 13 ^^^ turnR 32 V.a 22) + ((V.a &&& V.b) ||| (V.a &&& V.c) ||| (V.b &&& V.c)))) 32 w (by decide)) (fun v hv => ?_)
              subst hv
              exact ⟨rfl, rfl⟩
            refine Det.cons 5 (ins := [(22, _)]) (.old (by (conv => lhs; whnf) <;> rfl) (by decide +kernel) .nil) (fun e_ => .inl ⟨rfl, V1.t (V1.move' (by (conv => lhs; whnf) <;> rfl)) ⟨rfl, rfl⟩⟩) ?_
            refine Det.cons 6 (ins := [(331, _)]) (.new 5 0 (by decide +kernel) rfl rfl .nil) (fun e_ => .inl ⟨rfl, V1.t (V1.indexAddrS ty_93 sz_32 rfl rfl (by decide) (by omega)) ⟨rfl, rfl⟩⟩) ?_
            refine Det.cons 7 (ins := [(332, _)]) (.new 6 0 (by decide +kernel) rfl rfl .nil) (fun e_ => .inl ⟨rfl, V1.t (V1.load1 one_32 rfl (show Rd _ _ ⟨bv, ov + 0, none⟩ (w64 V.a) from Rd.at (by repeat (first | exact Find.here | assumption | apply Find.there | apply Find.far)) rfl)) ⟨rfl, rfl⟩⟩) ?_
            refine Det.cons 8 (ins := [(22, _)]) (.old (by (conv => lhs; whnf) <;> rfl) (by decide +kernel) .nil) (fun e_ => .inl ⟨rfl, V1.t (V1.move' (by (conv => lhs; whnf) <;> rfl)) ⟨rfl, rfl⟩⟩) ?_
            refine Det.cons 9 (ins := [(334, _)]) (.new 8 0 (by decide +kernel) rfl rfl .nil) (fun e_ => .inl ⟨rfl, V1.t (V1.indexAddrS ty_93 sz_32 rfl rfl (by decide) (by omega)) ⟨rfl, rfl⟩⟩) ?_
            refine Det.cons 10 (ins := [(335, _)]) (.new 9 0 (by decide +kernel) rfl rfl .nil) (fun e_ => .inl ⟨rfl, V1.t (V1.load1 one_32 rfl (show Rd _ _ ⟨bv, ov + 1, none⟩ (w64 V.b) from Rd.at (by repeat (first | exact Find.here | assumption | apply Find.there | apply Find.far)) rfl)) ⟨rfl, rfl⟩⟩) ?_
            refine Det.cons 11 (ins := [(22, _)]) (.old (by (conv => lhs; whnf) <;> rfl) (by decide +kernel) .nil) (fun e_ => .inl ⟨rfl, V1.t (V1.move' (by (conv => lhs; whnf) <;> rfl)) ⟨rfl, rfl⟩⟩) ?_
            refine Det.cons 12 (ins := [(337, _)]) (.new 11 0 (by decide +kernel) rfl rfl .nil) (fun e_ => .inl ⟨rfl, V1.t (V1.indexAddrS ty_93 sz_32 rfl rfl (by decide) (by omega)) ⟨rfl, rfl⟩⟩) ?_
            refine Det.cons 13 (ins := [(338, _)]) (.new 12 0 (by decide +kernel) rfl rfl .nil) (fun e_ => .inl ⟨rfl, V1.t (V1.load1 one_32 rfl (show Rd _ _ ⟨bv, ov + 2, none⟩ (w64 V.c) from Rd.at (by repeat (first | exact Find.here | assumption | apply Find.there | apply Find.far)) rfl)) ⟨rfl, rfl⟩⟩) ?_
            refine Det.cons 14 (ins := [(22, _)]) (.old (by (conv => lhs; whnf) <;> rfl) (by decide +kernel) .nil) (fun e_ => .inl ⟨rfl, V1.t (V1.move' (by (conv => lhs; whnf) <;> rfl)) ⟨rfl, rfl⟩⟩) ?_
            refine Det.cons 15 (ins := [(340, _)]) (.new 14 0 (by decide +kernel) rfl rfl .nil) (fun e_ => .inl ⟨rfl, V1.t (V1.indexAddrS ty_93 sz_32 rfl rfl (by decide) (by omega)) ⟨rfl, rfl⟩⟩) ?_
            refine Det.cons 16 (ins := [(341, _)]) (.new 15 0 (by decide +kernel) rfl rfl .nil) (fun e_ => .inl ⟨rfl, V1.t (V1.load1 one_32 rfl (show Rd _ _ ⟨bv, ov + 3, none⟩ (w64 V.d) from Rd.at (by repeat (first | exact Find.here | assumption | apply Find.there | apply Find.far)) rfl)) ⟨rfl, rfl⟩⟩) ?_
            refine Det.cons 17 (ins := [(27, _)]) (.old (by (conv => lhs; whnf) <;> rfl) (by decide +kernel) .nil) (fun e_ => .inl ⟨rfl, V1.t (V1.move' (by (conv => lhs; whnf) <;> rfl)) ⟨rfl, rfl⟩⟩) ?_
            refine Det.cons 18 (ins := [(342, _), (343, _)]) (.new 16 1 (by decide +kernel) rfl rfl (.new 17 0 (by decide +kernel) rfl rfl .nil)) (fun e_ => .inl ⟨rfl, V1.t (V1.addW u64U rfl rfl) ⟨rfl, rfl⟩⟩) ?_
            refine Det.cons 19 (ins := [(12, _)]) (.old (by (conv => lhs; whnf) <;> rfl) (by decide +kernel) .nil) (fun e_ => .inl ⟨rfl, V1.t (V1.move' (by (conv => lhs; whnf) <;> rfl)) ⟨rfl, rfl⟩⟩) ?_
            refine Det.cons 20 (ins := [(344, _), (345, _)]) (v := w64 (keepR 32 (V.d + (V.h + (turnR 32 V.e 6 ^^^ turnR 32 V.e 11 ^^^ turnR 32 V.e 25) + ((V.e &&& V.f) ||| (keepR 32 (18446744073709551615#64 - V.e) &&& V.g)) + KV + LS.getD i 0)))) (.new 18 1 (by decide +kernel) rfl rfl (.new 19 0 (by decide +kernel) rfl rfl .nil)) (fun e_ => .inl ⟨rfl, ?_⟩) ?_
            · refine T1.call0 has_44 rfl (fun w hs => keep_any (V.d + (V.h + (turnR 32 V.e 6 ^^^ turnR 32 V.e 11 ^^^ turnR 32 V.e 25) + ((V.e &&& V.f) ||| (keepR 32 (18446744073709551615#64 - V.e) &&& V.g)) + KV + LS.getD i 0)) 32 w (by decide)) (fun v hv => ?_)
              subst hv
              exact ⟨rfl, rfl⟩
            refine Det.cons 21 (ins := [(22, _)]) (.old (by (conv => lhs; whnf) <;> rfl) (by decide +kernel) .nil) (fun e_ => .inl ⟨rfl, V1.t (V1.move' (by (conv => lhs; whnf) <;> rfl)) ⟨rfl, rfl⟩⟩) ?_
            refine Det.cons 22 (ins := [(347, _)]) (.new 21 0 (by decide +kernel) rfl rfl .nil) (fun e_ => .inl ⟨rfl, V1.t (V1.indexAddrS ty_93 sz_32 rfl rfl (by decide) (by omega)) ⟨rfl, rfl⟩⟩) ?_
            refine Det.cons 23 (ins := [(348, _)]) (.new 22 0 (by decide +kernel) rfl rfl .nil) (fun e_ => .inl ⟨rfl, V1.t (V1.load1 one_32 rfl (show Rd _ _ ⟨bv, ov + 4, none⟩ (w64 V.e) from Rd.at (by repeat (first | exact Find.here | assumption | apply Find.there | apply Find.far)) rfl)) ⟨rfl, rfl⟩⟩) ?_
            refine Det.cons 24 (ins := [(22, _)]) (.old (by (conv => lhs; whnf) <;> rfl) (by decide +kernel) .nil) (fun e_ => .inl ⟨rfl, V1.t (V1.move' (by (conv => lhs; whnf) <;> rfl)) ⟨rfl, rfl⟩⟩) ?_
            refine Det.cons 25 (ins := [(350, _)]) (.new 24 0 (by decide +kernel) rfl rfl .nil) (fun e_ => .inl ⟨rfl, V1.t (V1.indexAddrS ty_93 sz_32 rfl rfl (by decide) (by omega)) ⟨rfl, rfl⟩⟩) ?_
            refine Det.cons 26 (ins := [(351, _)]) (.new 25 0 (by decide +kernel) rfl rfl .nil) (fun e_ => .inl ⟨rfl, V1.t (V1.load1 one_32 rfl (show Rd _ _ ⟨bv, ov + 5, none⟩ (w64 V.f) from Rd.at (by repeat (first | exact Find.here | assumption | apply Find.there | apply Find.far)) rfl)) ⟨rfl, rfl⟩⟩) ?_
            refine Det.cons 27 (ins := [(22, _)]) (.old (by (conv => lhs; whnf) <;> rfl) (by decide +kernel) .nil) (fun e_ => .inl ⟨rfl, V1.t (V1.move' (by (conv => lhs; whnf) <;> rfl)) ⟨rfl, rfl⟩⟩) ?_
            refine Det.cons 28 (ins := [(353, _)]) (.new 27 0 (by decide +kernel) rfl rfl .nil) (fun e_ => .inl ⟨rfl, V1.t (V1.indexAddrS ty_93 sz_32 rfl rfl (by decide) (by omega)) ⟨rfl, rfl⟩⟩) ?_
            refine Det.cons 29 (ins := [(354, _)]) (.new 28 0 (by decide +kernel) rfl rfl .nil) (fun e_ => .inl ⟨rfl, V1.t (V1.load1 one_32 rfl (show Rd _ _ ⟨bv, ov + 6, none⟩ (w64 V.g) from Rd.at (by repeat (first | exact Find.here | assumption | apply Find.there | apply Find.far)) rfl)) ⟨rfl, rfl⟩⟩) ?_
            refine Det.nil 30 (l := [(3, _), (5, _), (6, _), (10, _), (11, _), (12, _), (13, _), (14, _), (15, _), (23, _), (330, _), (333, _), (336, _), (339, _), (346, _), (349, _), (352, _), (355, _)]) (.old (by (conv => lhs; whnf) <;> rfl) (by decide +kernel) (.old (by (conv => lhs; whnf) <;> rfl) (by decide +kernel) (.old (by (conv => lhs; whnf) <;> rfl) (by decide +kernel) (.old (by (conv => lhs; whnf) <;> rfl) (by decide +kernel) (.old (by (conv => lhs; whnf) <;> rfl) (by decide +kernel) (.old (by (conv => lhs; whnf) <;> rfl) (by decide +kernel) (.old (by (conv => lhs; whnf) <;> rfl) (by decide +kernel) (.old (by (conv => lhs; whnf) <;> rfl) (by decide +kernel) (.old (by (conv => lhs; whnf) <;> rfl) (by decide +kernel) (.old (by (conv => lhs; whnf) <;> rfl) (by decide +kernel) (.new 4 25 (by decide +kernel) rfl rfl (.new 7 22 (by decide +kernel) rfl rfl (.new 10 19 (by decide +kernel) rfl rfl (.new 13 16 (by decide +kernel) rfl rfl (.new 20 9 (by decide +kernel) rfl rfl (.new 23 6 (by decide +kernel) rfl rfl (.new 26 3 (by decide +kernel) rfl rfl (.new 29 0 (by decide +kernel) rfl rfl .nil)))))))))))))))))) (fun e_ => ?_)
            refine (show TU _ _ _ 2 _ _ _ from ?_)
            refine TU.one 30 (by decide +kernel) rfl rfl (T1.buildSl1 (os := [.tmp 330, .tmp 333, .tmp 336, .tmp 339, .tmp 346, .tmp 349, .tmp 352, .tmp 355]) ty_93 sz_32 zr_32 (by decide) rfl (.cons (by (conv => lhs; whnf) <;> rfl) (.cons (by (conv => lhs; whnf) <;> rfl) (.cons (by (conv => lhs; whnf) <;> rfl) (.cons (by (conv => lhs; whnf) <;> rfl) (.cons (by (conv => lhs; whnf) <;> rfl) (.cons (by (conv => lhs; whnf) <;> rfl) (.cons (by (conv => lhs; whnf) <;> rfl) (.cons (by (conv => lhs; whnf) <;> rfl) .nil)))))))) rfl (ones rfl) (fun b356 => ?_))
            refine TU.one 31 (by decide +kernel) rfl rfl (V1.t (V1.assign' (by (conv => lhs; whnf) <;> rfl)) ?_)
            refine TU.done (by decide +kernel) ?_
            refine T.region ?_
            refine TL.cons rfl (V1.t (V1.move' (by (conv => lhs; whnf) <;> rfl)) ?_)
            refine TL.cons rfl (V1.t (V1.add rfl rfl (wrap_i64 _ (by omega) (by omega))) ?_)
            refine TL.cons rfl (V1.t (V1.assign' (by (conv => lhs; whnf) <;> rfl)) ?_)
            refine TL.nil ?_
            exact ⟨(i + 1, rndR T256 V KV (LS.getD i 0), .slice (some ⟨b356, 0, none⟩) 8 8, [⟨b356, 0, (stL (rndR T256 V KV (LS.getD i 0))).map w64, 8⟩]), _, _, (by simp only; omega), (.cons rfl (.cons rfl .nil)), (.cons rfl (.cons rfl (.cons rfl (.cons rfl (.cons rfl (.cons rfl (.cons rfl (.cons rfl (.cons rfl .nil))))))))), (by repeat (first | exact Take.nil | apply Take.one (by repeat (first | exact Pick.here | apply Pick.there | apply Pick.far)) | apply Take.seg (by repeat (first | exact PickS.last | exact PickS.one | exact PickS.here | exact PickS.nil | apply PickS.there | apply PickS.far)) | exact Take.last (by repeat (first | exact PickS.last | exact PickS.one | exact PickS.here | exact PickS.nil | apply PickS.there | apply PickS.far)))), ⟨rfl, .inr ⟨b356, 0, 8, 8, 8, rfl, rfl, by decide, by decide, rfl⟩, UpR.rnd ok256 hV hKV (hup i (by omega)), by simp only; omega⟩⟩
          ·
            try simp only at h37_3
            obtain rfl : i = 64 := by omega
            refine TL.nil ?_
            refine T.cond_f rfl ?_
            refine T.exit ?_
            refine T.seq ?_
            refine T.region ?_
            refine TL.cons rfl (V1.t (V1.assign' (by (conv => lhs; whnf) <;> rfl)) ?_)
            refine TL.nil ?_
            refine T.block ?_
            refine T.loopL (σ := Nat) (l0 := [(3, _), (5, _), (6, _), (10, _), (11, _), (12, _), (13, _), (14, _), (22, _)]) (fun x => [(29, .int .i64 (x : Nat))]) (fun x L => L = ⟨bst, ost, ((stL (addK 32 Sm V)).map w64).take x ++ ((stL Sm).map w64).drop x, zst⟩ :: ⟨bv, ov, (stL V).map w64, zv⟩ :: ⟨b13, 0, [.int .i64 7, .int .i64 18, .int .i64 3, .int .i64 17, .int .i64 19, .int .i64 10, .int .i64 2, .int .i64 13, .int .i64 22, .int .i64 6, .int .i64 11, .int .i64 25], 12⟩ :: ⟨bt, 0, tableV, 80⟩ :: ⟨bp, op, pl.map byteV, zp⟩ :: ⟨b3, 0, [.int .i64 32, .int .i64 64, .int .i64 64, .slice (some ⟨bs, 0, none⟩) 8 8, .int .i64 7, .int .i64 18, .int .i64 3, .int .i64 17, .int .i64 19, .int .i64 10, .int .i64 2, .int .i64 13, .int .i64 22, .int .i64 6, .int .i64 11, .int .i64 25], 16⟩ :: ⟨bs, 0, (stL (upInit T256.init)).map w64, 8⟩ :: G ∧ x ≤ 8) (fun x => 8 - x) 0 (.cons rfl .nil) (.cons (by (conv => lhs; whnf) <;> rfl) (.cons (by (conv => lhs; whnf) <;> rfl) (.cons (by (conv => lhs; whnf) <;> rfl) (.cons (by (conv => lhs; whnf) <;> rfl) (.cons (by (conv => lhs; whnf) <;> rfl) (.cons (by (conv => lhs; whnf) <;> rfl) (.cons (by (conv => lhs; whnf) <;> rfl) (.cons (by (conv => lhs; whnf) <;> rfl) (.cons (by (conv => lhs; whnf) <;> rfl) .nil))))))))) (by repeat (first | exact Take.nil | apply Take.one (by repeat (first | exact Pick.here | apply Pick.there | apply Pick.far)) | apply Take.seg (by repeat (first | exact PickS.last | exact PickS.one | exact PickS.here | exact PickS.nil | apply PickS.there | apply PickS.far)) | exact Take.last (by repeat (first | exact PickS.last | exact PickS.one | exact PickS.here | exact PickS.nil | apply PickS.there | apply PickS.far)))) (⟨rfl, Nat.zero_le _⟩) ?_
            rintro q e_ L ⟨rfl, hq⟩
            refine T.seq ?_
            refine T.seq ?_
            refine T.region ?_
            refine TL.cons rfl (V1.t (V1.move' (by (conv => lhs; whnf) <;> rfl)) ?_)
            refine TL.cons rfl (T1.ltI_split rfl rfl (fun h48_1 => ?_) (fun h48_1 => ?_))
            ·
              refine TL.nil ?_
              refine T.cond_t rfl ?_
              refine T.skip ?_
              refine T.seq ?_
              refine T.block ?_
              refine T.drawTail 13 mixed (by decide +kernel) (by rfl) (by decide +kernel) rfl ?_
              refine Det.cons 0 (ins := [(11, _)]) (.old (by (conv => lhs; whnf) <;> rfl) (by decide +kernel) .nil) (fun e_ => .inl ⟨rfl, V1.t (V1.move' (by (conv => lhs; whnf) <;> rfl)) ⟨rfl, rfl⟩⟩) ?_
              refine Det.cons 1 (ins := [(29, _)]) (.old (by (conv => lhs; whnf) <;> rfl) (by decide +kernel) .nil) (fun e_ => .inl ⟨rfl, V1.t (V1.move' (by (conv => lhs; whnf) <;> rfl)) ⟨rfl, rfl⟩⟩) ?_
              refine Det.cons 2 (ins := [(11, _)]) (.old (by (conv => lhs; whnf) <;> rfl) (by decide +kernel) .nil) (fun e_ => .inl ⟨rfl, V1.t (V1.move' (by (conv => lhs; whnf) <;> rfl)) ⟨rfl, rfl⟩⟩) ?_
              refine Det.cons 3 (ins := [(29, _)]) (.old (by (conv => lhs; whnf) <;> rfl) (by decide +kernel) .nil) (fun e_ => .inl ⟨rfl, V1.t (V1.move' (by (conv => lhs; whnf) <;> rfl)) ⟨rfl, rfl⟩⟩) ?_
              refine Det.cons 4 (ins := [(363, _), (364, _)]) (.new 2 1 (by decide +kernel) rfl rfl (.new 3 0 (by decide +kernel) rfl rfl .nil)) (fun e_ => .inl ⟨rfl, V1.t (V1.indexAddrS ty_93 sz_32 rfl rfl (by omega) (by omega)) ⟨rfl, rfl⟩⟩) ?_
              refine Det.cons 5 (ins := [(365, _)]) (.new 4 0 (by decide +kernel) rfl rfl .nil) (fun e_ => .inl ⟨rfl, V1.t (V1.load1 one_32 rfl (show Rd _ _ ⟨bst, ost + q * 1, none⟩ (w64 ((stL Sm).getD q 0)) from by rw [Nat.mul_one]; exact Rd.at (by repeat (first | exact Find.here | assumption | apply Find.there | apply Find.far)) ((mix_get (by simp [stL]) (by simp [stL]; omega)).trans (st64 (by omega))))) ⟨rfl, rfl⟩⟩) ?_
              refine Det.cons 6 (ins := [(22, _)]) (.old (by (conv => lhs; whnf) <;> rfl) (by decide +kernel) .nil) (fun e_ => .inl ⟨rfl, V1.t (V1.move' (by (conv => lhs; whnf) <;> rfl)) ⟨rfl, rfl⟩⟩) ?_
              refine Det.cons 7 (ins := [(29, _)]) (.old (by (conv => lhs; whnf) <;> rfl) (by decide +kernel) .nil) (fun e_ => .inl ⟨rfl, V1.t (V1.move' (by (conv => lhs; whnf) <;> rfl)) ⟨rfl, rfl⟩⟩) ?_
              refine Det.cons 8 (ins := [(367, _), (368, _)]) (.new 6 1 (by decide +kernel) rfl rfl (.new 7 0 (by decide +kernel) rfl rfl .nil)) (fun e_ => .inl ⟨rfl, V1.t (V1.indexAddrS ty_93 sz_32 rfl rfl (by omega) (by omega)) ⟨rfl, rfl⟩⟩) ?_
              refine Det.cons 9 (ins := [(369, _)]) (.new 8 0 (by decide +kernel) rfl rfl .nil) (fun e_ => .inl ⟨rfl, V1.t (V1.load1 one_32 rfl (show Rd _ _ ⟨bv, ov + q * 1, none⟩ (w64 ((stL V).getD q 0)) from by rw [Nat.mul_one]; exact Rd.at (by repeat (first | exact Find.here | assumption | apply Find.there | apply Find.far)) (st64 (by omega)))) ⟨rfl, rfl⟩⟩) ?_
              refine Det.cons 10 (ins := [(366, _), (370, _)]) (.new 5 4 (by decide +kernel) rfl rfl (.new 9 0 (by decide +kernel) rfl rfl .nil)) (fun e_ => .inl ⟨rfl, V1.t (V1.addW u64U rfl rfl) ⟨rfl, rfl⟩⟩) ?_
              refine Det.cons 11 (ins := [(12, _)]) (.old (by (conv => lhs; whnf) <;> rfl) (by decide +kernel) .nil) (fun e_ => .inl ⟨rfl, V1.t (V1.move' (by (conv => lhs; whnf) <;> rfl)) ⟨rfl, rfl⟩⟩) ?_
              refine Det.cons 12 (ins := [(371, _), (372, _)]) (v := w64 (keepR 32 ((stL Sm).getD q 0 + (stL V).getD q 0))) (.new 10 1 (by decide +kernel) rfl rfl (.new 11 0 (by decide +kernel) rfl rfl .nil)) (fun e_ => .inl ⟨rfl, ?_⟩) ?_
              · refine T1.call0 has_44 rfl (fun w hs => keep_any ((stL Sm).getD q 0 + (stL V).getD q 0) 32 w (by decide)) (fun v hv => ?_)
                subst hv
                exact ⟨rfl, rfl⟩
              refine Det.nil 13 (l := [(3, _), (5, _), (6, _), (10, _), (11, _), (12, _), (13, _), (14, _), (22, _), (29, _), (361, _), (362, _), (373, _)]) (.old (by (conv => lhs; whnf) <;> rfl) (by decide +kernel) (.old (by (conv => lhs; whnf) <;> rfl) (by decide +kernel) (.old (by (conv => lhs; whnf) <;> rfl) (by decide +kernel) (.old (by (conv => lhs; whnf) <;> rfl) (by decide +kernel) (.old (by (conv => lhs; whnf) <;> rfl) (by decide +kernel) (.old (by (conv => lhs; whnf) <;> rfl) (by decide +kernel) (.old (by (conv => lhs; whnf) <;> rfl) (by decide +kernel) (.old (by (conv => lhs; whnf) <;> rfl) (by decide +kernel) (.old (by (conv => lhs; whnf) <;> rfl) (by decide +kernel) (.old (by (conv => lhs; whnf) <;> rfl) (by decide +kernel) (.new 0 12 (by decide +kernel) rfl rfl (.new 1 11 (by decide +kernel) rfl rfl (.new 12 0 (by decide +kernel) rfl rfl .nil))))))))))))) (fun e_ => ?_)
              refine (show TU _ _ _ 2 _ _ _ from ?_)
              refine TU.one 13 (by decide +kernel) rfl rfl (V1.t (V1.indexAddrS ty_93 sz_32 rfl rfl (by omega) (by omega)) ?_)
              refine TU.one 14 (by decide +kernel) rfl rfl (T1.storeE (o := ost + q * 1) (cells := ((stL (addK 32 Sm V)).map w64).take q ++ ((stL Sm).map w64).drop q) (cells' := ((stL (addK 32 Sm V)).map w64).take (q + 1) ++ ((stL Sm).map w64).drop (q + 1)) rfl (congrArg w64 (addK_get 32 Sm V (by omega)).symm) sz_32 rfl (by rw [show ost + q * 1 - ost = q from by omega]; exact mix_set (by simp [stL]) (st64 (by omega))) (by repeat (first | exact Sub.one | apply Sub.there | apply Sub.far)) (by omega) (by simp only [List.length_append, List.length_take, List.length_drop, List.length_map]; simp only [stL, List.length_cons, List.length_nil]; omega) ?_)
              refine TU.done (by decide +kernel) ?_
              refine T.region ?_
              refine TL.cons rfl (V1.t (V1.move' (by (conv => lhs; whnf) <;> rfl)) ?_)
              refine TL.cons rfl (V1.t (V1.add rfl rfl (wrap_i64 _ (by omega) (by omega))) ?_)
              refine TL.cons rfl (V1.t (V1.assign' (by (conv => lhs; whnf) <;> rfl)) ?_)
              refine TL.nil ?_
              exact ⟨q + 1, _, _, (by simp only; omega), (.cons rfl .nil), (.cons rfl (.cons rfl (.cons rfl (.cons rfl (.cons rfl (.cons rfl (.cons rfl (.cons rfl (.cons rfl .nil))))))))), (by repeat (first | exact Take.nil | apply Take.one (by repeat (first | exact Pick.here | apply Pick.there | apply Pick.far)) | apply Take.seg (by repeat (first | exact PickS.last | exact PickS.one | exact PickS.here | exact PickS.nil | apply PickS.there | apply PickS.far)) | exact Take.last (by repeat (first | exact PickS.last | exact PickS.one | exact PickS.here | exact PickS.nil | apply PickS.there | apply PickS.far)))), ⟨rfl, by omega⟩⟩
            ·
              obtain rfl : q = 8 := by omega
              rw [show ((stL (addK 32 Sm V)).map w64).take 8 ++ ((stL Sm).map w64).drop 8 = (stL (addK 32 Sm V)).map w64 from rfl]
              refine TL.nil ?_
              refine T.cond_f rfl ?_
              refine T.exit ?_
              refine T.region ?_
              refine TL.cons rfl (V1.t (V1.move' (by (conv => lhs; whnf) <;> rfl)) ?_)
              refine TL.cons rfl (V1.t (V1.fieldAddr fl_96_2 rfl) ?_)
              refine TL.cons rfl (V1.t (V1.load1 one_3 rfl (.own (by repeat (first | exact Find.here | assumption | apply Find.there | apply Find.far)) (by rfl))) ?_)
              refine TL.cons rfl (V1.t (V1.add rfl rfl (wrap_i64 _ (by omega) (by omega))) ?_)
              refine TL.cons rfl (V1.t (V1.assign' (by (conv => lhs; whnf) <;> rfl)) ?_)
              refine TL.nil ?_
              exact ⟨(m + 1, addK 32 Sm V), _, _, (by simp only; omega), (.cons (congrArg (Value.int .i64) (show ((64 * m : Nat) : Int) + 64 = ((64 * (m + 1) : Nat) : Int) by omega)) .nil), (.cons rfl (.cons rfl (.cons rfl (.cons rfl (.cons rfl (.cons rfl (.cons rfl .nil))))))), (by repeat (first | exact Take.nil | apply Take.one (by repeat (first | exact Pick.here | apply Pick.there | apply Pick.far)) | apply Take.seg (by repeat (first | exact PickS.last | exact PickS.one | exact PickS.here | exact PickS.nil | apply PickS.there | apply PickS.far)) | exact Take.last (by repeat (first | exact PickS.last | exact PickS.one | exact PickS.here | exact PickS.nil | apply PickS.there | apply PickS.far)))), ⟨rfl, addK_up (by decide) hS (by rw [hWW] at hV; exact hV), by simp only; omega⟩⟩
      ·
        try simp only at h20_3
        obtain rfl : M = m := by omega
        refine TL.nil ?_
        refine T.cond_f rfl ?_
        refine T.exit ?_
        refine T.seq ?_
        refine T.region ?_
        refine TL.cons rfl (V1.t (V1.assign' rfl) ?_)
        have hfin : outB (steps T256 T256.init pl M) = sha T256 l := by rw [sha_steps T256 (by decide), ← hpl, hM, show 64 * M / (2 * 32) = M from by omega]
        refine TL.nil ?_
        refine T.seq ?_
        refine T.seq ?_
        refine T.region ?_
        refine TL.cons rfl (V1.t (V1.assign' (by (conv => lhs; whnf) <;> rfl)) ?_)
        refine TL.nil ?_
        refine T.block ?_
        refine T.loopL (σ := Nat × Value × List Blk) (l0 := [(5, _), (11, _)]) (fun x => [(31, .int .i64 (x.1 : Nat)), (30, x.2.1)]) (fun x L => L = x.2.2 ++ (⟨bst, ost, (stL Sm).map w64, zst⟩ :: ⟨bs, 0, (stL (upInit T256.init)).map w64, 8⟩ :: G) ∧ Sl x.2.1 (((outB (steps T256 T256.init pl M)).take (4 * x.1)).map byteV) 1 x.2.2 ∧ x.1 ≤ 8) (fun x => 8 - x.1) (0, .slice none 0 0, []) (.cons rfl (.cons rfl .nil)) (.cons (by (conv => lhs; whnf) <;> rfl) (.cons (by (conv => lhs; whnf) <;> rfl) .nil)) (by repeat (first | exact Take.nil | apply Take.one (by repeat (first | exact Pick.here | apply Pick.there | apply Pick.far)) | apply Take.seg (by repeat (first | exact PickS.last | exact PickS.one | exact PickS.here | exact PickS.nil | apply PickS.there | apply PickS.far)) | exact Take.last (by repeat (first | exact PickS.last | exact PickS.one | exact PickS.here | exact PickS.nil | apply PickS.there | apply PickS.far)))) (⟨rfl, Sl.nil, Nat.zero_le _⟩) ?_
        rintro ⟨i, so, Lo⟩ e_ L ⟨rfl, hso, hi⟩
        simp only at hso hi
        refine T.seq ?_
        refine T.seq ?_
        refine T.region ?_
        refine TL.cons rfl (V1.t (V1.move' (by (conv => lhs; whnf) <;> rfl)) ?_)
        refine TL.cons rfl (T1.ltI_split rfl rfl (fun h53_1 => ?_) (fun h53_1 => ?_))
        ·
          try simp only at h53_1
          refine TL.nil ?_
          refine T.cond_t rfl ?_
          refine T.skip ?_
          refine T.seq ?_
          refine T.block ?_
          refine T.seq ?_
          refine T.region ?_
          refine TL.cons rfl (V1.t (V1.move' (by (conv => lhs; whnf) <;> rfl)) ?_)
          refine TL.cons rfl (V1.t (V1.sub (c := ((4 : Nat) : Int) - 1) rfl rfl (by decide)) ?_)
          refine TL.cons rfl (V1.t (V1.assign' (by (conv => lhs; whnf) <;> rfl)) ?_)
          refine TL.nil ?_
          refine T.block ?_
          refine T.loopL (σ := Nat × Value × List Blk) (l0 := [(5, _), (11, _), (31, _)]) (fun x => [(32, .int .i64 ((x.1 : Int) - 1)), (30, x.2.1)]) (fun x L => L = x.2.2 ++ (⟨bst, ost, (stL Sm).map w64, zst⟩ :: ⟨bs, 0, (stL (upInit T256.init)).map w64, 8⟩ :: G) ∧ Sl x.2.1 (((outB (steps T256 T256.init pl M)).take (4 * i + 4 - x.1)).map byteV) 1 x.2.2 ∧ x.1 ≤ 4) (fun x => x.1) (4, so, Lo) (.cons rfl (.cons rfl .nil)) (.cons (by (conv => lhs; whnf) <;> rfl) (.cons (by (conv => lhs; whnf) <;> rfl) (.cons (by (conv => lhs; whnf) <;> rfl) .nil))) (by repeat (first | exact Take.nil | apply Take.one (by repeat (first | exact Pick.here | apply Pick.there | apply Pick.far)) | apply Take.seg (by repeat (first | exact PickS.last | exact PickS.one | exact PickS.here | exact PickS.nil | apply PickS.there | apply PickS.far)) | exact Take.last (by repeat (first | exact PickS.last | exact PickS.one | exact PickS.here | exact PickS.nil | apply PickS.there | apply PickS.far)))) (⟨rfl, by simp only; rw [Nat.add_sub_cancel]; exact hso, Nat.le_refl _⟩) ?_
          rintro ⟨y, so2, Lo2⟩ e_ L ⟨rfl, hso2, hy⟩
          simp only at hso2 hy
          refine T.seq ?_
          refine T.seq ?_
          refine T.region ?_
          refine TL.cons rfl (V1.t (V1.move' (by (conv => lhs; whnf) <;> rfl)) ?_)
          refine TL.cons rfl (T1.geI_split rfl rfl (fun h56_1 => ?_) (fun h56_1 => ?_))
          ·
            try simp only at h56_1
            obtain ⟨c, rfl⟩ : ∃ c, y = c + 1 := ⟨y - 1, by omega⟩
            refine TL.nil ?_
            refine T.cond_t rfl ?_
            refine T.skip ?_
            refine T.seq ?_
            refine T.block ?_
            refine T.drawK (fun L_ => Find L_ ⟨bst, ost, (stL Sm).map w64, zst⟩) mixed (by repeat (first | exact Find.here | assumption | apply Find.there | apply Find.far)) ?_
            refine TK.take 0 rfl (by decide +kernel) (by decide +kernel) (by decide +kernel) rfl (fun _ _ _ h => h) (fun L_ k1_ => V1.move' (by (conv => lhs; whnf) <;> rfl)) ?_
            refine TK.take 1 rfl (by decide +kernel) (by decide +kernel) (by decide +kernel) rfl (fun _ _ _ h => h) (fun L_ k1_ => V1.move' (by (conv => lhs; whnf) <;> rfl)) ?_
            refine TK.take 2 rfl (by decide +kernel) (by decide +kernel) (by decide +kernel) rfl (fun _ _ _ h => h) (fun L_ k1_ => V1.move' (by (conv => lhs; whnf) <;> rfl)) ?_
            refine TK.take 3 rfl (by decide +kernel) (by decide +kernel) (by decide +kernel) rfl (fun _ _ _ h => h) (fun L_ k1_ => V1.indexAddrS ty_93 sz_32 rfl rfl (by omega) (by omega)) ?_
            refine TK.take 4 rfl (by decide +kernel) (by decide +kernel) (by decide +kernel) rfl (fun _ _ _ h => h) (fun L_ k1_ => V1.load1 one_32 rfl (show Rd _ _ ⟨bst, ost + i * 1, none⟩ (w64 ((stL Sm).getD i 0)) from by rw [Nat.mul_one]; exact Rd.at (by repeat (first | exact Find.here | assumption | apply Find.there | apply Find.far)) (st64 (by omega)))) ?_
            refine TK.take 5 rfl (by decide +kernel) (by decide +kernel) (by decide +kernel) rfl (fun _ _ _ h => h) (fun L_ k1_ => V1.move' (v := .int .i64 (c : Int)) (congrArg (Value.int .i64) (show ((c + 1 : Nat) : Int) - 1 = (c : Int) by omega))) ?_
            refine TK.take 6 rfl (by decide +kernel) (by decide +kernel) (by decide +kernel) rfl (fun _ _ _ h => h) (fun L_ k1_ => V1.mul (c := ((8 * c : Nat) : Int)) rfl rfl (by rw [wrap_i64 _ (by omega) (by omega)]; omega)) ?_
            refine TK.one 7 (by decide +kernel) rfl rfl (T1.call0 has_43 rfl (fun w hs => power_any (8 * c) w (by omega)) (fun v hv => ?_))
            subst hv
            refine ⟨(by repeat (first | exact Find.here | assumption | apply Find.there | apply Find.far)), ?_⟩
            refine TK.take 8 rfl (by decide +kernel) (by decide +kernel) (by decide +kernel) rfl (fun _ _ _ h => h) (fun L_ k1_ => V1.quoW u64U rfl rfl (pw_ne (by omega))) ?_
            refine TK.take 9 rfl (by decide +kernel) (by decide +kernel) (by decide +kernel) rfl (fun _ _ _ h => h) (fun L_ k1_ => V1.remW (b := 256#64) rfl rfl (by decide)) ?_
            refine TK.take 10 rfl (by decide +kernel) (by decide +kernel) (by decide +kernel) rfl (fun _ _ _ h => h) (fun L_ k1_ => V1.convW 8 u8U ty_32 ty_5 rfl) ?_
            refine TK.one 11 (by decide +kernel) rfl rfl (T1.buildSl1 (os := [.tmp 395]) (vs := [byteV (UInt8.ofNat (((stL (steps T256 T256.init pl M)).getD i 0).toNat / 256 ^ c))]) ty_33 sz_5 zr_5 (by decide) rfl (.cons (congrArg (fun z : Nat => Value.int .u8 (z : Int)) (show (((((stL Sm).getD i 0) / pw (8 * c)) % 256#64).setWidth 8).toNat = _ from by rw [byte_div (by omega), show ((stL Sm).getD i 0).toNat = _ from upR_get hS (by omega)])) .nil) rfl (ones rfl) (fun b396 => ?_))
            refine ⟨(by repeat (first | exact Find.here | assumption | apply Find.there | apply Find.far)), ?_⟩
            refine TK.one 12 (by decide +kernel) rfl rfl (T1.append ty_33 kd_33 sz_5 by_5 zr_5 rfl (by decide) (by decide) rfl rfl hso2 (.sl (n := 1) (RdN.at0 (cells := [byteV (UInt8.ofNat (((stL (steps T256 T256.init pl M)).getD i 0).toNat / 256 ^ c))]) (by repeat (first | exact Find.here | assumption | apply Find.there | apply Find.far))) rfl) (one_bytes [UInt8.ofNat (((stL (steps T256 T256.init pl M)).getD i 0).toNat / 256 ^ c)]) 200000000002000 (by simp only [List.length_map, List.length_cons, List.length_nil]; rw [List.length_take]; omega) (by omega) (by repeat (first | exact PickS.last | exact PickS.one | exact PickS.here | exact PickS.nil | apply PickS.there | apply PickS.far)) (fun s6 Lss6 hs6 => ?_))
            rw [show [byteV (UInt8.ofNat (((stL (steps T256 T256.init pl M)).getD i 0).toNat / 256 ^ c))] = [UInt8.ofNat (((stL (steps T256 T256.init pl M)).getD i 0).toNat / 256 ^ c)].map byteV from rfl, ← List.map_append, out_take (by omega) (out_at32 (by omega) (by omega))] at hs6
            refine ⟨(by repeat (first | exact Find.here | assumption | apply Find.there | apply Find.far)), ?_⟩
            refine TK.take 13 rfl (by decide +kernel) (by decide +kernel) (by decide +kernel) rfl (fun _ _ _ h => h) (fun L_ k1_ => V1.assign' (by (conv => lhs; whnf) <;> rfl)) ?_
            refine TD.done (by decide +kernel) ?_
            refine T.live (l := [(5, _), (11, _), (30, _), (31, _), (32, _)]) (.cons (by (conv => lhs; whnf) <;> rfl) (.cons (by (conv => lhs; whnf) <;> rfl) (.cons (by (conv => lhs; whnf) <;> rfl) (.cons (by (conv => lhs; whnf) <;> rfl) (.cons (by (conv => lhs; whnf) <;> rfl) .nil))))) (fun e_ => ?_)
            refine T.region ?_
            refine TL.cons rfl (V1.t (V1.move' (v := .int .i64 (c : Int)) (congrArg (Value.int .i64) (show ((c + 1 : Nat) : Int) - 1 = (c : Int) by omega))) ?_)
            refine TL.cons rfl (V1.t (V1.sub rfl rfl (wrap_i64 _ (by omega) (by omega))) ?_)
            refine TL.cons rfl (V1.t (V1.assign' (by (conv => lhs; whnf) <;> rfl)) ?_)
            refine TL.nil ?_
            exact ⟨(c, s6, Lss6), _, _, (by simp only; omega), (.cons (congrArg (Value.int .i64) (show ((c : Nat) : Int) - 1 = _ from rfl)) (.cons rfl .nil)), (.cons rfl (.cons rfl (.cons rfl .nil))), (by repeat (first | exact Take.nil | apply Take.one (by repeat (first | exact Pick.here | apply Pick.there | apply Pick.far)) | apply Take.seg (by repeat (first | exact PickS.last | exact PickS.one | exact PickS.here | exact PickS.nil | apply PickS.there | apply PickS.far)) | exact Take.last (by repeat (first | exact PickS.last | exact PickS.one | exact PickS.here | exact PickS.nil | apply PickS.there | apply PickS.far)))), ⟨rfl, by simp only; rw [show 4 * i + 4 - c = 4 * i + 4 - (c + 1) + 1 from by omega]; exact hs6, by simp only; omega⟩⟩
          ·
            try simp only at h56_1
            obtain rfl : y = 0 := by omega
            refine TL.nil ?_
            refine T.cond_f rfl ?_
            refine T.exit ?_
            refine T.region ?_
            refine TL.cons rfl (V1.t (V1.move' (by (conv => lhs; whnf) <;> rfl)) ?_)
            refine TL.cons rfl (V1.t (V1.add rfl rfl (wrap_i64 _ (by omega) (by omega))) ?_)
            refine TL.cons rfl (V1.t (V1.assign' (by (conv => lhs; whnf) <;> rfl)) ?_)
            refine TL.nil ?_
            exact ⟨(i + 1, so2, Lo2), _, _, (by simp only; omega), (.cons rfl (.cons rfl .nil)), (.cons rfl (.cons rfl .nil)), (by repeat (first | exact Take.nil | apply Take.one (by repeat (first | exact Pick.here | apply Pick.there | apply Pick.far)) | apply Take.seg (by repeat (first | exact PickS.last | exact PickS.one | exact PickS.here | exact PickS.nil | apply PickS.there | apply PickS.far)) | exact Take.last (by repeat (first | exact PickS.last | exact PickS.one | exact PickS.here | exact PickS.nil | apply PickS.there | apply PickS.far)))), ⟨rfl, by simp only; rw [show 4 * (i + 1) = 4 * i + 4 - 0 from by omega]; exact hso2, by simp only; omega⟩⟩
        ·
          try simp only at h53_1
          obtain rfl : i = 8 := by omega
          refine TL.nil ?_
          refine T.cond_f rfl ?_
          refine T.exit ?_
          refine T.seq ?_
          refine T.region ?_
          refine TL.cons rfl (V1.t (V1.move' (by (conv => lhs; whnf) <;> rfl)) ?_)
          refine TL.cons rfl (V1.t (V1.assign' (by (conv => lhs; whnf) <;> rfl)) ?_)
          refine TL.nil ?_
          refine T.ret ?_
          rw [List.take_of_length_le (by rw [outB_len]; omega), hfin] at hso
          exact ⟨_, Lo ++ (⟨bs, 0, (stL (upInit T256.init)).map w64, 8⟩ :: G), _, .cons (.tmp (by (conv => lhs; whnf) <;> rfl)) .nil, (by repeat (first | exact Take.nil | apply Take.one (by repeat (first | exact Pick.here | apply Pick.there | apply Pick.far)) | apply Take.seg (by repeat (first | exact PickS.last | exact PickS.one | exact PickS.here | exact PickS.nil | apply PickS.there | apply PickS.far)) | exact Take.last (by repeat (first | exact PickS.last | exact PickS.one | exact PickS.here | exact PickS.nil | apply PickS.there | apply PickS.far)))), Lo ++ [⟨bs, 0, (stL (upInit T256.init)).map w64, 8⟩], by simp only [List.append_assoc, List.cons_append, List.nil_append], Lo, hso, rfl⟩

end Go.Proofs.Ytmolpgnekcfimaa.S
