/- Turning, the table, and one block of SHA-256. -/
import Derived.Test.YtdgbckfnamiebaaTypes
import Derived.Test.YtdgbckfnamiebaaShaSpec2
namespace Go.Proofs.Ytdgbckfnamiebaa.S
open Go.RowKit

open Sh
abbrev w32 (x : BitVec 32) : Value := .int .u32 (x.toNat : Int)
abbrev w64 (x : BitVec 64) : Value := .int .u64 (x.toNat : Int)
def RL32 (x : BitVec 32) (k : Int) : BitVec 32 := (x <<< (BitVec.ofInt 64 k &&& 31#64).toNat) ||| (x >>> (32#64 - (BitVec.ofInt 64 k &&& 31#64)).toNat)
def RL64 (x : BitVec 64) (k : Int) : BitVec 64 := (x <<< (BitVec.ofInt 64 k &&& 63#64).toNat) ||| (x >>> (64#64 - (BitVec.ofInt 64 k &&& 63#64)).toNat)
theorem RL32_25 (x : BitVec 32) : RL32 x 25 = rotr x 7 := by kernel_rfl
theorem RL32_14 (x : BitVec 32) : RL32 x 14 = rotr x 18 := by kernel_rfl
theorem RL32_15 (x : BitVec 32) : RL32 x 15 = rotr x 17 := by kernel_rfl
theorem RL32_13 (x : BitVec 32) : RL32 x 13 = rotr x 19 := by kernel_rfl
theorem RL32_26 (x : BitVec 32) : RL32 x 26 = rotr x 6 := by kernel_rfl
theorem RL32_21 (x : BitVec 32) : RL32 x 21 = rotr x 11 := by kernel_rfl
theorem RL32_7 (x : BitVec 32) : RL32 x 7 = rotr x 25 := by kernel_rfl
theorem RL32_30 (x : BitVec 32) : RL32 x 30 = rotr x 2 := by kernel_rfl
theorem RL32_19 (x : BitVec 32) : RL32 x 19 = rotr x 13 := by kernel_rfl
theorem RL32_10 (x : BitVec 32) : RL32 x 10 = rotr x 22 := by kernel_rfl

def tableV : List Value := Sh.table.map w64
theorem table_len : Sh.table.length = 80 := rfl
theorem tableV_get {i : Nat} (h : i < 80) : tableV[i]? = some (w64 (Sh.table.getD i 0)) := by
  unfold tableV
  rw [List.getElem?_map, List.getD_eq_getElem?_getD, List.getElem?_eq_getElem (show i < Sh.table.length from h)]; rfl
theorem fill_set {α : Type} {f : α → Value} {WW : List α} {z : Value} {m i : Nat} (d : α) (hl : WW.length = m) (hi : i < m) : ((WW.take i).map f ++ List.replicate (m - i) z).set i (f (WW.getD i d)) = (WW.take (i + 1)).map f ++ List.replicate (m - (i + 1)) z := by
  rw [List.set_append_right _ _ (by rw [List.length_map, List.length_take]; omega), List.length_map, List.length_take, Nat.min_eq_left (by omega), Nat.sub_self,
    show m - i = (m - (i + 1)) + 1 from by omega, List.replicate_succ, List.set_cons_zero, List.take_add_one, List.getElem?_eq_getElem (by omega), List.map_append, List.append_assoc,
    List.getD_eq_getElem?_getD, List.getElem?_eq_getElem (by omega)]
  rfl
theorem fill_get {α : Type} {f : α → Value} {WW : List α} {Z : List Value} {i j : Nat} (d : α) (hl : i ≤ WW.length) (hj : j < i) : ((WW.take i).map f ++ Z)[j]? = some (f (WW.getD j d)) := by
  rw [List.getElem?_append_left (by rw [List.length_map, List.length_take]; omega), List.getElem?_map, List.getElem?_take_of_lt hj, List.getD_eq_getElem?_getD, List.getElem?_eq_getElem (by omega)]
  rfl
theorem mix_get {α : Type} {A B : List α} {i : Nat} (h : A.length = B.length) (hi : i < B.length) : (A.take i ++ B.drop i)[i]? = B[i]? := by
  rw [List.getElem?_append_right (by rw [List.length_take]; omega), List.length_take, Nat.min_eq_left (by omega), Nat.sub_self, List.getElem?_drop, Nat.add_zero]
theorem mix_set {α : Type} {A B : List α} {i : Nat} {x : α} (h : A.length = B.length) (hx : A[i]? = some x) : (A.take i ++ B.drop i).set i x = A.take (i + 1) ++ B.drop (i + 1) := by
  have hi : i < A.length := by
    rcases Nat.lt_or_ge i A.length with h' | h'
    · exact h'
    · rw [List.getElem?_eq_none h'] at hx; cases hx
  rw [List.set_append_right _ _ (by rw [List.length_take]; omega), List.length_take, Nat.min_eq_left (by omega), Nat.sub_self, List.take_add_one, hx]
  rw [List.drop_eq_getElem_cons (show i < B.length by omega), List.set_cons_zero, List.append_assoc]
  rfl
theorem stL_map {s : R8 32} {i : Nat} (h : i < 8) : ((stL s).map w32)[i]? = some (w32 ((stL s).getD i 0)) := by
  rw [List.getElem?_map, List.getD_eq_getElem?_getD, List.getElem?_eq_getElem (show i < (stL s).length from h)]; rfl
theorem stL_arr {s : R8 32} {i : Nat} (h : i < 8) : ((stL s).map w32).toArray[i * 1]? = some (w32 ((stL s).getD i 0)) := by
  rw [Nat.mul_one, List.getElem?_toArray]; exact stL_map h
theorem mix_end (X Y : R8 32) : ((stL X).map w32).take 8 ++ ((stL Y).map w32).drop 8 = [w32 X.a, w32 X.b, w32 X.c, w32 X.d, w32 X.e, w32 X.f, w32 X.g, w32 X.h] := rfl
theorem addR_get {w : Nat} (s t : R8 w) (i : Nat) : (stL (addR s t)).getD i 0 = (stL s).getD i 0 + (stL t).getD i 0 := by
  match i with
  | 0 | 1 | 2 | 3 | 4 | 5 | 6 | 7 => rfl
  | i + 8 => simp [stL]
theorem words_get {w : Nat} (b : List UInt8) {i : Nat} (h : i < 16) : (words w b).getD i 0 = word w ((b.drop (w / 8 * i)).take (w / 8)) := by
  unfold words
  rw [List.getD_eq_getElem?_getD, List.getElem?_map, List.getElem?_range h]; rfl
theorem words_len {w : Nat} (b : List UInt8) : (words w b).length = 16 := by simp [words]
theorem take4 {l : List UInt8} {p : Nat} (h : p + 4 ≤ l.length) : (l.drop p).take 4 = [l.getD p 0, l.getD (p + 1) 0, l.getD (p + 2) 0, l.getD (p + 3) 0] := by
  have e : ∀ j, p + j < l.length → l[p + j]? = some (l.getD (p + j) 0) := fun j hj => getD_some hj
  apply List.ext_getElem?
  intro j
  rw [List.getElem?_take]
  split
  · rename_i hj
    rw [List.getElem?_drop, e j (by omega)]
    match j, hj with
    | 0, _ => rfl
    | 1, _ => rfl
    | 2, _ => rfl
    | 3, _ => rfl
  · rename_i hj
    rw [List.getElem?_eq_none (by simp only [List.length_cons, List.length_nil]; omega)]
theorem map_byte_get {l : List UInt8} {m p : Nat} (h : p < m) (hm : m ≤ l.length) : (l.map byteV)[p]? = some (byteV ((l.take m).getD p 0)) := by
  rw [List.getElem?_map, List.getD_eq_getElem?_getD, List.getElem?_take_of_lt h, List.getElem?_eq_getElem (by omega)]; rfl

set_option maxRecDepth 100000 in
theorem RotL64_any (x : BitVec 64) (k : Int) (w : World) : Fn P 54 [w64 x, .int .i64 k] w [] (fun v Y => Y = [] ∧ v = w64 (RL64 x k)) := by
  refine Fn.of 17 [.tmp 4] Go.Proofs.Try.func54 rfl rfl rfl rfl ?_
  refine T.seq ?_
  refine T.region ?_
  refine TL.cons rfl (V1.t (V1.assign' (by (conv => lhs; whnf) <;> rfl)) ?_)
  refine TL.nil ?_
  refine T.seq ?_
  refine T.region ?_
  refine TL.cons rfl (V1.t (V1.move' (by (conv => lhs; whnf) <;> rfl)) ?_)
  refine TL.cons rfl (V1.t (V1.convI 64 u64U ty_3 ty_48 rfl) ?_)
  refine TL.cons rfl (V1.t (V1.andW (b := 63#64) u64U rfl rfl) ?_)
  refine TL.cons rfl (V1.t (V1.assign' (by (conv => lhs; whnf) <;> rfl)) ?_)
  refine TL.nil ?_
  refine T.seq ?_
  refine T.region ?_
  refine TL.cons rfl (V1.t (V1.move' (by (conv => lhs; whnf) <;> rfl)) ?_)
  refine TL.cons rfl (V1.t (V1.move' (by (conv => lhs; whnf) <;> rfl)) ?_)
  refine TL.cons rfl (V1.t (V1.shlW u64U rfl rfl) ?_)
  refine TL.cons rfl (V1.t (V1.move' (by (conv => lhs; whnf) <;> rfl)) ?_)
  refine TL.cons rfl (V1.t (V1.move' (by (conv => lhs; whnf) <;> rfl)) ?_)
  refine TL.cons rfl (V1.t (V1.subW (a := 64#64) u64U rfl rfl) ?_)
  refine TL.cons rfl (V1.t (V1.shrW u64U rfl rfl) ?_)
  refine TL.cons rfl (V1.t (V1.orW u64U rfl rfl) ?_)
  refine TL.cons rfl (V1.t (V1.assign' (by (conv => lhs; whnf) <;> rfl)) ?_)
  refine TL.nil ?_
  refine T.ret ?_
  exact ⟨_, [], _, .cons (.tmp (by (conv => lhs; whnf) <;> rfl)) .nil, Take.nil, rfl, rfl⟩

set_option maxRecDepth 100000 in
theorem table_any (w : World) : Fn P 55 [] w [] (fun v Y => Y = [] ∧ v = .agg tableV.toArray) := by
  refine Fn.of 2 [.cell 0 101] Go.Proofs.Try.func55 rfl rfl rfl rfl ?_
  refine T.seq ?_
  refine T.region ?_
  refine TL.cons rfl (T1.allocN 80 zr_101 rfl (fun b0 => ?_))
  refine TL.nil ?_
  refine T.seq ?_
  refine T.region ?_
  refine TL.cons rfl (V1.t (V1.buildA (cells := tableV.toArray) ty_101 sz_47 zr_101 (by kernel_rfl)) ?_)
  refine TL.cons rfl (T1.storeN rfl rfl sz_101 (by intro u hu; obtain ⟨k, _, rfl⟩ := List.mem_map.1 hu; rfl) (by repeat (first | exact Sub.one | apply Sub.there | apply Sub.far)) (by kernel_rfl) (by kernel_rfl) ?_)
  refine TL.nil ?_
  refine T.ret ?_
  exact ⟨_, [], _, .cons (.cellN (by (conv => lhs; whnf) <;> rfl) one_101 sz_101 (RdN.whole (by repeat (first | exact Find.here | assumption | apply Find.there | apply Find.far))) (by kernel_rfl)) .nil, Take.nil, rfl, rfl⟩

theorem W_load {l : List UInt8} {i : Nat} (hi : i < 16) (hl : 64 ≤ l.length) : (sched T256 (words 32 (l.take 64)) 48).getD i 0 =
    (((((((l.take 64).getD (4 * i + 0) 0).toBitVec.setWidth 32) <<< 24) ||| ((((l.take 64).getD (4 * i + 1) 0).toBitVec.setWidth 32) <<< 16)) ||| ((((l.take 64).getD (4 * i + 2) 0).toBitVec.setWidth 32) <<< 8)) ||| (((l.take 64).getD (4 * i + 3) 0).toBitVec.setWidth 32)) := by
  rw [sched_first T256 _ (by rw [words_len]; exact hi), words_get _ hi, word4]
  show word 32 (((l.take 64).drop (4 * i)).take 4) = _
  rw [take4 (by rw [List.length_take]; omega)]; rfl
theorem W_next {l : List UInt8} {j : Nat} (hj : j < 48) : (sched T256 (words 32 (l.take 64)) 48).getD (16 + j) 0 =
    (sched T256 (words 32 (l.take 64)) 48).getD j 0 + (sched T256 (words 32 (l.take 64)) 48).getD (j + 9) 0 + low T256 ((sched T256 (words 32 (l.take 64)) 48).getD (j + 1) 0) + high T256 ((sched T256 (words 32 (l.take 64)) 48).getD (j + 14) 0) :=
  sched_rec T256 _ (words_len _) hj

end Go.Proofs.Ytdgbckfnamiebaa.S
