/- Turning, the table, and one block of SHA-256. -/
import Derived.Test.YtfjedhmffccgnaaGreatDoorTypes
import Derived.Test.YtfjedhmffccgnaaGreatDoorShaSpec
namespace Go.Proofs.YtfjedhmffccgnaaGreatDoor.S
set_option maxRecDepth 100000
open Go.RowKit
open Sh
abbrev w32 (x : BitVec 32) : Value := .int .u32 (x.toNat : Int)
abbrev w64 (x : BitVec 64) : Value := .int .u64 (x.toNat : Int)
def RL32 (x : BitVec 32) (k : Int) : BitVec 32 := (x <<< (BitVec.ofInt 64 k &&& 31#64).toNat) ||| (x >>> (32#64 - (BitVec.ofInt 64 k &&& 31#64)).toNat)
def RL64 (x : BitVec 64) (k : Int) : BitVec 64 := (x <<< (BitVec.ofInt 64 k &&& 63#64).toNat) ||| (x >>> (64#64 - (BitVec.ofInt 64 k &&& 63#64)).toNat)
theorem RL32_25 (x : BitVec 32) : RL32 x 25 = rotr x 7 := by kernel_rfl
theorem RL32_14 (x : BitVec 32) : RL32 x 14 = rotr x 18 := by kernel_rfl
theorem RL32_15 (x : BitVec 32) : RL32 x 15 = rotr x 17 := by kernel_rfl
theorem RL32_13 (x : BitVec 32) : RL32 x 13 = rotr x 19 := by kernel_rfl
theorem RL32_26 (x : BitVec 32) : RL32 x 26 = rotr x 6 := by kernel_rfl
theorem RL32_21 (x : BitVec 32) : RL32 x 21 = rotr x 11 := by kernel_rfl
theorem RL32_7 (x : BitVec 32) : RL32 x 7 = rotr x 25 := by kernel_rfl
theorem RL32_30 (x : BitVec 32) : RL32 x 30 = rotr x 2 := by kernel_rfl
theorem RL32_19 (x : BitVec 32) : RL32 x 19 = rotr x 13 := by kernel_rfl
theorem RL32_10 (x : BitVec 32) : RL32 x 10 = rotr x 22 := by kernel_rfl
def tableV : List Value := Sh.table.map w64
theorem tableV_get {i : Nat} (h : i < 80) : tableV[i]? = some (w64 (Sh.table.getD i 0)) := by
 unfold tableV
 rw [List.getElem?_map, List.getD_eq_getElem?_getD, List.getElem?_eq_getElem (show i < Sh.table.length from h)]; rfl
theorem fill_set {α : Type} {f : α → Value} {WW : List α} {z : Value} {m i : Nat} (d : α) (hl : WW.length = m) (hi : i < m) : ((WW.take i).map f ++ List.replicate (m - i) z).set i (f (WW.getD i d)) = (WW.take (i + 1)).map f ++ List.replicate (m - (i + 1)) z := by
 rw [List.set_append_right _ _ (by rw [List.length_map, List.length_take]; omega), List.length_map, List.length_take, Nat.min_eq_left (by omega), Nat.sub_self,
  show m - i = (m - (i + 1)) + 1 from by omega, List.replicate_succ, List.set_cons_zero, List.take_add_one, List.getElem?_eq_getElem (by omega), List.map_append, List.append_assoc,
  List.getD_eq_getElem?_getD, List.getElem?_eq_getElem (by omega)]
 rfl
theorem fill_get {α : Type} {f : α → Value} {WW : List α} {Z : List Value} {i j : Nat} (d : α) (hl : i ≤ WW.length) (hj : j < i) : ((WW.take i).map f ++ Z)[j]? = some (f (WW.getD j d)) := by
 rw [List.getElem?_append_left (by rw [List.length_map, List.length_take]; omega), List.getElem?_map, List.getElem?_take_of_lt hj, List.getD_eq_getElem?_getD, List.getElem?_eq_getElem (by omega)]
 rfl
theorem mix_get {α : Type} {A B : List α} {i : Nat} (h : A.length = B.length) (hi : i < B.length) : (A.take i ++ B.drop i)[i]? = B[i]? := by
 rw [List.getElem?_append_right (by rw [List.length_take]; omega), List.length_take, Nat.min_eq_left (by omega), Nat.sub_self, List.getElem?_drop, Nat.add_zero]
theorem mix_set {α : Type} {A B : List α} {i : Nat} {x : α} (h : A.length = B.length) (hx : A[i]? = some x) : (A.take i ++ B.drop i).set i x = A.take (i + 1) ++ B.drop (i + 1) := by
 have hi : i < A.length := by
  rcases Nat.lt_or_ge i A.length with h' | h'
  · exact h'
  · rw [List.getElem?_eq_none h'] at hx; cases hx
 rw [List.set_append_right _ _ (by rw [List.length_take]; omega), List.length_take, Nat.min_eq_left (by omega), Nat.sub_self, List.take_add_one, hx]
 rw [List.drop_eq_getElem_cons (show i < B.length by omega), List.set_cons_zero, List.append_assoc]
 rfl
theorem stL_map {s : R8 32} {i : Nat} (h : i < 8) : ((stL s).map w32)[i]? = some (w32 ((stL s).getD i 0)) := by
 rw [List.getElem?_map, List.getD_eq_getElem?_getD, List.getElem?_eq_getElem (show i < (stL s).length from h)]; rfl
theorem stL_arr {s : R8 32} {i : Nat} (h : i < 8) : ((stL s).map w32).toArray[i * 1]? = some (w32 ((stL s).getD i 0)) := by
 rw [Nat.mul_one, List.getElem?_toArray]; exact stL_map h
theorem mix_end (X Y : R8 32) : ((stL X).map w32).take 8 ++ ((stL Y).map w32).drop 8 = [w32 X.a, w32 X.b, w32 X.c, w32 X.d, w32 X.e, w32 X.f, w32 X.g, w32 X.h] := rfl
theorem addR_get {w : Nat} (s t : R8 w) (i : Nat) : (stL (addR s t)).getD i 0 = (stL s).getD i 0 + (stL t).getD i 0 := by
 match i with
 | 0 | 1 | 2 | 3 | 4 | 5 | 6 | 7 => rfl
 | i + 8 => simp [stL]
theorem words_get {w : Nat} (b : List UInt8) {i : Nat} (h : i < 16) : (words w b).getD i 0 = word w ((b.drop (w / 8 * i)).take (w / 8)) := by
 unfold words
 rw [List.getD_eq_getElem?_getD, List.getElem?_map, List.getElem?_range h]; rfl
theorem words_len {w : Nat} (b : List UInt8) : (words w b).length = 16 := by simp [words]
theorem take4 {l : List UInt8} {p : Nat} (h : p + 4 ≤ l.length) : (l.drop p).take 4 = [l.getD p 0, l.getD (p + 1) 0, l.getD (p + 2) 0, l.getD (p + 3) 0] := by
 have e : ∀ j, p + j < l.length → l[p + j]? = some (l.getD (p + j) 0) := fun j hj => getD_some hj
 apply List.ext_getElem?
 intro j
 rw [List.getElem?_take]
 split
 ·
  rename_i hj
  rw [List.getElem?_drop, e j (by omega)]
  match j, hj with
  | 0, _ => rfl
  | 1, _ => rfl
  | 2, _ => rfl
  | 3, _ => rfl
 ·
  rename_i hj
  rw [List.getElem?_eq_none (by simp only [List.length_cons, List.length_nil]; omega)]
theorem map_byte_get {l : List UInt8} {m p : Nat} (h : p < m) (hm : m ≤ l.length) : (l.map byteV)[p]? = some (byteV ((l.take m).getD p 0)) := by
 rw [List.getElem?_map, List.getD_eq_getElem?_getD, List.getElem?_take_of_lt h, List.getElem?_eq_getElem (by omega)]; rfl
theorem RotL32_any (x : BitVec 32) (k : Int) (w : World) : Fn P 127 [w32 x, .int .i64 k] w [] (fun v Y => Y = [] ∧ v = w32 (RL32 x k)) := by
 refine Fn.of 17 [.tmp 4] Go.Proofs.Tryz.func127 rfl rfl rfl rfl ?_
 refine zs ?_
 refine z0 (V1.convI 64 u64U ty_3 ty_104 rfl) ?_
 refine zq (V1.andW (b := 31#64) u64U rfl rfl) ?_
 refine zq (V1.shlW u32U rfl rfl) ?_
 refine z0 (V1.subW (a := 32#64) u64U rfl rfl) ?_
 refine z0 (V1.shrW u32U rfl rfl) ?_
 refine zq (V1.orW u32U rfl rfl) ?_
 exact ⟨_, [], _, .cons (.tmp z_C) .nil, Take.nil, rfl, rfl⟩
theorem RotL64_any (x : BitVec 64) (k : Int) (w : World) : Fn P 132 [w64 x, .int .i64 k] w [] (fun v Y => Y = [] ∧ v = w64 (RL64 x k)) := by
 refine Fn.of 17 [.tmp 4] Go.Proofs.Tryz.func132 rfl rfl rfl rfl ?_
 refine zs ?_
 refine z0 (V1.convI 64 u64U ty_3 ty_104 rfl) ?_
 refine zq (V1.andW (b := 63#64) u64U rfl rfl) ?_
 refine zq (V1.shlW u64U rfl rfl) ?_
 refine z0 (V1.subW (a := 64#64) u64U rfl rfl) ?_
 refine z0 (V1.shrW u64U rfl rfl) ?_
 refine zq (V1.orW u64U rfl rfl) ?_
 exact ⟨_, [], _, .cons (.tmp z_C) .nil, Take.nil, rfl, rfl⟩
theorem table_any (w : World) : Fn P 128 [] w [] (fun v Y => Y = [] ∧ v = .agg tableV.toArray) := by
 refine Fn.of 2 [.cell 0 195] Go.Proofs.Tryz.func128 rfl rfl rfl rfl ?_
 refine zs ?_
 refine TL.cons rfl (T1.allocN 80 zr_195 rfl (fun b0 => zs ?_))
 refine z0 (V1.buildA (cells := tableV.toArray) ty_195 sz_79 zr_195 (by kernel_rfl)) ?_
 refine TL.cons rfl (T1.storeN rfl rfl sz_195 (by intro u hu; obtain ⟨k, _, rfl⟩ := List.mem_map.1 hu; rfl) z_H (by kernel_rfl) (by kernel_rfl) ?_)
 refine zs ?_
 exact ⟨_, [], _, .cons (.cellN z_C one_195 sz_195 (RdN.whole z_A) (by kernel_rfl)) .nil, Take.nil, rfl, rfl⟩
theorem W_load {l : List UInt8} {i : Nat} (hi : i < 16) (hl : 64 ≤ l.length) : (sched T256 (words 32 (l.take 64)) 48).getD i 0 =
 (((((((l.take 64).getD (4 * i + 0) 0).toBitVec.setWidth 32) <<< 24) ||| ((((l.take 64).getD (4 * i + 1) 0).toBitVec.setWidth 32) <<< 16)) ||| ((((l.take 64).getD (4 * i + 2) 0).toBitVec.setWidth 32) <<< 8)) ||| (((l.take 64).getD (4 * i + 3) 0).toBitVec.setWidth 32)) := by
 rw [sched_first T256 _ (by rw [words_len]; exact hi), words_get _ hi, word4]
 show word 32 (((l.take 64).drop (4 * i)).take 4) = _
 rw [take4 (by rw [List.length_take]; omega)]; rfl
theorem W_next {l : List UInt8} {j : Nat} (hj : j < 48) : (sched T256 (words 32 (l.take 64)) 48).getD (16 + j) 0 =
 (sched T256 (words 32 (l.take 64)) 48).getD j 0 + (sched T256 (words 32 (l.take 64)) 48).getD (j + 9) 0 + low T256 ((sched T256 (words 32 (l.take 64)) 48).getD (j + 1) 0) + high T256 ((sched T256 (words 32 (l.take 64)) 48).getD (j + 14) 0) :=
 sched_rec T256 _ (words_len _) hj
set_option maxHeartbeats 4000000 in
theorem block256_any (w0 : World) (bh bp op size cap : Nat) (s : Value) (n : BitVec 64) (st : R8 32) (l : List UInt8) (hl : 64 ≤ l.length) : FnX P 111 [.pointer (some ⟨bh, 0, none⟩), .slice (some ⟨bp, op, none⟩) 64 cap] w0 [] [⟨bh, 0, [s, w64 n, w32 st.a, w32 st.b, w32 st.c, w32 st.d, w32 st.e, w32 st.f, w32 st.g, w32 st.h], 10⟩, ⟨bp, op, l.map byteV, size⟩] (fun _ Y => Y = [⟨bh, 0, [s, w64 n, w32 (blockS T256 st (l.take 64)).a, w32 (blockS T256 st (l.take 64)).b, w32 (blockS T256 st (l.take 64)).c, w32 (blockS T256 st (l.take 64)).d, w32 (blockS T256 st (l.take 64)).e, w32 (blockS T256 st (l.take 64)).f, w32 (blockS T256 st (l.take 64)).g, w32 (blockS T256 st (l.take 64)).h], 10⟩, ⟨bp, op, l.map byteV, size⟩]) := by
 obtain ⟨WW, hWW⟩ : ∃ WW, WW = sched T256 (words 32 (l.take 64)) 48 := ⟨_, rfl⟩
 have hWl : WW.length = 64 := by rw [hWW, sched_len, words_len]
 have hB : blockS T256 st (l.take 64) = addR st (rnds T256 WW st 64) := by rw [hWW]; kernel_rfl
 refine FnX.of 231 [] Go.Proofs.Tryz.func111 rfl rfl rfl rfl (fun G => ?_)
 refine zs ?_
 refine TL.cons rfl (T1.allocN 64 zr_193 rfl (fun b4 => ?_))
 refine TL.nil ?_
 refine T.seq (T.seq (T.region (z1 ?_)))
 refine T.block (T.loopL (σ := Nat) (l0 := [(0, _), (1, _), (4, _)]) (fun x => [(22, .int .i64 (x : Nat))]) (fun x L => L = ⟨b4, 0, (WW.take (x)).map w32 ++ List.replicate (64 - (x)) (.int .u32 0), 64⟩ :: ⟨bh, 0, [s, w64 n, w32 st.a, w32 st.b, w32 st.c, w32 st.d, w32 st.e, w32 st.f, w32 st.g, w32 st.h], 10⟩ :: ⟨bp, op, l.map byteV, size⟩ :: G ∧ x ≤ 64) (fun x => 64 - x) 0 (.cons rfl .nil) zT z_B (⟨rfl, Nat.zero_le _⟩) ?_)
 rintro i e_ L ⟨rfl, hi⟩
 refine zs ?_
 refine TL.cons rfl (T1.ltI_split rfl rfl (fun h2_0 => ?_) (fun h2_0 => ?_))
 ·
  refine zs ?_
  refine T.cond_t rfl (zs ?_)
  refine TL.cons rfl (T1.ltI_split rfl rfl (fun h4_1 => ?_) (fun h4_1 => ?_))
  ·
   have hWi := W_load (l := l) (i := i) (by omega) hl
   rw [← hWW] at hWi
   refine TL.nil ?_
   refine T.cond_t rfl (T.seq (T.drawTail 34 mixed z_F (by rfl) z_F rfl ?_))
   refine zd 0 (zO 5 zZ) (V1.move' z_C) ?_
   refine zd 1 (zO 1 zZ) (V1.move' z_C) ?_
   refine zd 2 (zO 5 zZ) (V1.move' z_C) ?_
   refine zd 3 (zN 29 2 rfl zZ) (V1.mul rfl rfl (wrap_i64 _ (by omega) (by omega))) ?_
   refine zd 4 (zN 28 1 rfl (zN 30 3 rfl zZ)) (V1.indexAddrS ty_44 sz_5 rfl rfl (by omega) (by omega)) ?_
   refine Det.cons 5 (zN 31 4 rfl zZ) (fun e_ => .inl ⟨rfl, V1.t (V1.load1 one_5 rfl (show Rd _ _ ⟨bp, op + (4 * i + 0) * 1, none⟩ (byteV ((l.take 64).getD (4 * i + 0) 0)) from by rw [Nat.mul_one]; exact Rd.at z_A (map_byte_get (by omega) hl))) ⟨rfl, rfl⟩⟩) ?_
   refine zd 6 (zN 32 5 rfl zZ) (V1.convW 32 u32U ty_5 ty_37 rfl) ?_
   refine zd 7 (zN 33 6 rfl zZ) (V1.shlW (k := 24) u32U rfl rfl) ?_
   refine zd 8 (zO 1 zZ) (V1.move' z_C) ?_
   refine zd 9 (zO 5 zZ) (V1.move' z_C) ?_
   refine zd 10 (zN 36 9 rfl zZ) (V1.mul rfl rfl (wrap_i64 _ (by omega) (by omega))) ?_
   refine zd 11 (zN 37 10 rfl zZ) (V1.add rfl rfl (wrap_i64 _ (by omega) (by omega))) ?_
   refine zd 12 (zN 35 8 rfl (zN 38 11 rfl zZ)) (V1.indexAddrS ty_44 sz_5 rfl rfl (by omega) (by omega)) ?_
   refine Det.cons 13 (zN 39 12 rfl zZ) (fun e_ => .inl ⟨rfl, V1.t (V1.load1 one_5 rfl (show Rd _ _ ⟨bp, op + (4 * i + 1) * 1, none⟩ (byteV ((l.take 64).getD (4 * i + 1) 0)) from by rw [Nat.mul_one]; exact Rd.at z_A (map_byte_get (by omega) hl))) ⟨rfl, rfl⟩⟩) ?_
   refine zd 14 (zN 40 13 rfl zZ) (V1.convW 32 u32U ty_5 ty_37 rfl) ?_
   refine zd 15 (zN 41 14 rfl zZ) (V1.shlW (k := 16) u32U rfl rfl) ?_
   refine zd 16 (zN 34 7 rfl (zN 42 15 rfl zZ)) (V1.orW u32U rfl rfl) ?_
   refine zd 17 (zO 1 zZ) (V1.move' z_C) ?_
   refine zd 18 (zO 5 zZ) (V1.move' z_C) ?_
   refine zd 19 (zN 45 18 rfl zZ) (V1.mul rfl rfl (wrap_i64 _ (by omega) (by omega))) ?_
   refine zd 20 (zN 46 19 rfl zZ) (V1.add rfl rfl (wrap_i64 _ (by omega) (by omega))) ?_
   refine zd 21 (zN 44 17 rfl (zN 47 20 rfl zZ)) (V1.indexAddrS ty_44 sz_5 rfl rfl (by omega) (by omega)) ?_
   refine Det.cons 22 (zN 48 21 rfl zZ) (fun e_ => .inl ⟨rfl, V1.t (V1.load1 one_5 rfl (show Rd _ _ ⟨bp, op + (4 * i + 2) * 1, none⟩ (byteV ((l.take 64).getD (4 * i + 2) 0)) from by rw [Nat.mul_one]; exact Rd.at z_A (map_byte_get (by omega) hl))) ⟨rfl, rfl⟩⟩) ?_
   refine zd 23 (zN 49 22 rfl zZ) (V1.convW 32 u32U ty_5 ty_37 rfl) ?_
   refine zd 24 (zN 50 23 rfl zZ) (V1.shlW (k := 8) u32U rfl rfl) ?_
   refine zd 25 (zN 43 16 rfl (zN 51 24 rfl zZ)) (V1.orW u32U rfl rfl) ?_
   refine zd 26 (zO 1 zZ) (V1.move' z_C) ?_
   refine zd 27 (zO 5 zZ) (V1.move' z_C) ?_
   refine zd 28 (zN 54 27 rfl zZ) (V1.mul rfl rfl (wrap_i64 _ (by omega) (by omega))) ?_
   refine zd 29 (zN 55 28 rfl zZ) (V1.add rfl rfl (wrap_i64 _ (by omega) (by omega))) ?_
   refine zd 30 (zN 53 26 rfl (zN 56 29 rfl zZ)) (V1.indexAddrS ty_44 sz_5 rfl rfl (by omega) (by omega)) ?_
   refine Det.cons 31 (zN 57 30 rfl zZ) (fun e_ => .inl ⟨rfl, V1.t (V1.load1 one_5 rfl (show Rd _ _ ⟨bp, op + (4 * i + 3) * 1, none⟩ (byteV ((l.take 64).getD (4 * i + 3) 0)) from by rw [Nat.mul_one]; exact Rd.at z_A (map_byte_get (by omega) hl))) ⟨rfl, rfl⟩⟩) ?_
   refine zd 32 (zN 58 31 rfl zZ) (V1.convW 32 u32U ty_5 ty_37 rfl) ?_
   refine zd 33 (zN 52 25 rfl (zN 59 32 rfl zZ)) (V1.orW u32U rfl rfl) ?_
   refine Det.nil 34 (zQ 0 (zQ 1 (zQ 4 (zQ 22 (zR 27 0 rfl (zR 60 33 rfl zW)))))) (fun e_ => ?_)
   refine (show TU _ _ _ 2 _ _ _ from ?_)
   refine TU.one 34 z_F rfl rfl (V1.t (V1.indexAddrA ty_193 sz_37 rfl rfl (by omega) (by omega)) ?_)
   refine TU.one 35 z_F rfl rfl (T1.storeE (o := 0 + (i) * 1) (cells := (WW.take (i)).map w32 ++ List.replicate (64 - (i)) (.int .u32 0)) (cells' := (WW.take (i + 1)).map w32 ++ List.replicate (64 - (i + 1)) (.int .u32 0)) rfl (congrArg w32 hWi.symm) sz_37 rfl (by rw [show 0 + (i) * 1 - 0 = i from by omega]; exact fill_set 0 hWl (by omega)) z_H (Nat.zero_le _) (by rw [List.length_append, List.length_map, List.length_take, List.length_replicate]; omega) ?_)
   refine TU.done z_F ?_
   refine zs ?_
   refine zq1 (V1.add rfl rfl (wrap_i64 _ (by omega) (by omega))) ?_
   exact ⟨i + 1, _, _, z_N, (.cons rfl .nil), (.cons rfl (.cons rfl (.cons rfl .nil))), z_B, ⟨rfl, by omega⟩⟩
  ·
   obtain ⟨j, rfl⟩ : ∃ j, i = 16 + j := ⟨i - 16, by omega⟩
   have hWi := W_next (l := l) (j := j) (by omega)
   rw [← hWW] at hWi
   refine TL.nil ?_
   refine T.cond_f rfl (T.skip (T.seq (T.drawDet' mixed z_F ?_)))
   refine zd 0 (zO 5 zZ) (V1.move' z_C) ?_
   refine zd 1 (zN 62 0 rfl zZ) (V1.sub rfl rfl (c := ((j + 1 : Nat) : Int)) z_J) ?_
   refine zd 2 (zO 4 (zN 63 1 rfl zZ)) (V1.indexAddrA ty_193 sz_37 rfl rfl (by omega) (by omega)) ?_
   refine Det.cons 3 (zN 64 2 rfl zZ) (fun e_ => .inl ⟨rfl, V1.t (V1.load1 one_37 rfl (show Rd _ _ ⟨b4, 0 + (j + 1) * 1, none⟩ (w32 (WW.getD (j + 1) 0)) from by rw [Nat.mul_one]; exact Rd.at z_A (fill_get 0 (by omega) (by omega)))) ⟨rfl, rfl⟩⟩) ?_
   refine zd 4 (zO 5 zZ) (V1.move' z_C) ?_
   refine zd 5 (zN 66 4 rfl zZ) (V1.sub rfl rfl (c := ((j + 14 : Nat) : Int)) z_J) ?_
   refine zd 6 (zO 4 (zN 67 5 rfl zZ)) (V1.indexAddrA ty_193 sz_37 rfl rfl (by omega) (by omega)) ?_
   refine Det.cons 7 (zN 68 6 rfl zZ) (fun e_ => .inl ⟨rfl, V1.t (V1.load1 one_37 rfl (show Rd _ _ ⟨b4, 0 + (j + 14) * 1, none⟩ (w32 (WW.getD (j + 14) 0)) from by rw [Nat.mul_one]; exact Rd.at z_A (fill_get 0 (by omega) (by omega)))) ⟨rfl, rfl⟩⟩) ?_
   refine zd 8 (zN 65 3 rfl zZ) (V1.assign' z_C) ?_
   refine zd 9 (zN 69 7 rfl zZ) (V1.assign' z_C) ?_
   refine Det.nil 10 (zQ 0 (zQ 1 (zQ 4 (zQ 5 (zR 6 8 rfl (zR 7 9 rfl (zQ 22 zW))))))) (fun e_ => ?_)
   refine T.drawTail 28 mixed z_F (by rfl) z_F rfl ?_
   refine zd 0 (zO 5 zZ) (V1.move' z_C) ?_
   refine zd 1 (zO 5 zZ) (V1.move' z_C) ?_
   refine zd 2 (zN 71 1 rfl zZ) (V1.sub rfl rfl (c := ((j : Nat) : Int)) z_J) ?_
   refine zd 3 (zO 4 (zN 72 2 rfl zZ)) (V1.indexAddrA ty_193 sz_37 rfl rfl (by omega) (by omega)) ?_
   refine Det.cons 4 (zN 73 3 rfl zZ) (fun e_ => .inl ⟨rfl, V1.t (V1.load1 one_37 rfl (show Rd _ _ ⟨b4, 0 + (j) * 1, none⟩ (w32 (WW.getD (j) 0)) from by rw [Nat.mul_one]; exact Rd.at z_A (fill_get 0 (by omega) (by omega)))) ⟨rfl, rfl⟩⟩) ?_
   refine zd 5 (zO 5 zZ) (V1.move' z_C) ?_
   refine zd 6 (zN 75 5 rfl zZ) (V1.sub rfl rfl (c := ((j + 9 : Nat) : Int)) z_J) ?_
   refine zd 7 (zO 4 (zN 76 6 rfl zZ)) (V1.indexAddrA ty_193 sz_37 rfl rfl (by omega) (by omega)) ?_
   refine Det.cons 8 (zN 77 7 rfl zZ) (fun e_ => .inl ⟨rfl, V1.t (V1.load1 one_37 rfl (show Rd _ _ ⟨b4, 0 + (j + 9) * 1, none⟩ (w32 (WW.getD (j + 9) 0)) from by rw [Nat.mul_one]; exact Rd.at z_A (fill_get 0 (by omega) (by omega)))) ⟨rfl, rfl⟩⟩) ?_
   refine zd 9 (zN 74 4 rfl (zN 78 8 rfl zZ)) (V1.addW u32U rfl rfl) ?_
   refine zd 10 (zO 6 zZ) (V1.move' z_C) ?_
   refine Det.cons 11 (v := w32 (rotr (WW.getD (j + 1) 0) 7)) (zN 80 10 rfl zZ) (fun e_ => .inl ⟨rfl, ?_⟩) ?_
   ·
    refine T1.call0 has_127 rfl (fun w hs => RotL32_any _ _ w) (fun v hv => ?_)
    rw [RL32_25] at hv
    subst hv
    exact ⟨rfl, rfl⟩
   refine zd 12 (zO 6 zZ) (V1.move' z_C) ?_
   refine Det.cons 13 (v := w32 (rotr (WW.getD (j + 1) 0) 18)) (zN 82 12 rfl zZ) (fun e_ => .inl ⟨rfl, ?_⟩) ?_
   ·
    refine T1.call0 has_127 rfl (fun w hs => RotL32_any _ _ w) (fun v hv => ?_)
    rw [RL32_14] at hv
    subst hv
    exact ⟨rfl, rfl⟩
   refine zd 14 (zN 81 11 rfl (zN 83 13 rfl zZ)) (V1.xorW u32U rfl rfl) ?_
   refine zd 15 (zO 6 zZ) (V1.move' z_C) ?_
   refine zd 16 (zN 85 15 rfl zZ) (V1.shrW (k := 3) u32U rfl rfl) ?_
   refine zd 17 (zN 84 14 rfl (zN 86 16 rfl zZ)) (V1.xorW u32U rfl rfl) ?_
   refine zd 18 (zN 79 9 rfl (zN 87 17 rfl zZ)) (V1.addW u32U rfl rfl) ?_
   refine zd 19 (zO 7 zZ) (V1.move' z_C) ?_
   refine Det.cons 20 (v := w32 (rotr (WW.getD (j + 14) 0) 17)) (zN 89 19 rfl zZ) (fun e_ => .inl ⟨rfl, ?_⟩) ?_
   ·
    refine T1.call0 has_127 rfl (fun w hs => RotL32_any _ _ w) (fun v hv => ?_)
    rw [RL32_15] at hv
    subst hv
    exact ⟨rfl, rfl⟩
   refine zd 21 (zO 7 zZ) (V1.move' z_C) ?_
   refine Det.cons 22 (v := w32 (rotr (WW.getD (j + 14) 0) 19)) (zN 91 21 rfl zZ) (fun e_ => .inl ⟨rfl, ?_⟩) ?_
   ·
    refine T1.call0 has_127 rfl (fun w hs => RotL32_any _ _ w) (fun v hv => ?_)
    rw [RL32_13] at hv
    subst hv
    exact ⟨rfl, rfl⟩
   refine zd 23 (zN 90 20 rfl (zN 92 22 rfl zZ)) (V1.xorW u32U rfl rfl) ?_
   refine zd 24 (zO 7 zZ) (V1.move' z_C) ?_
   refine zd 25 (zN 94 24 rfl zZ) (V1.shrW (k := 10) u32U rfl rfl) ?_
   refine zd 26 (zN 93 23 rfl (zN 95 25 rfl zZ)) (V1.xorW u32U rfl rfl) ?_
   refine zd 27 (zN 88 18 rfl (zN 96 26 rfl zZ)) (V1.addW u32U rfl rfl) ?_
   refine Det.nil 28 (zQ 0 (zQ 1 (zQ 4 (zQ 22 (zR 70 0 rfl (zR 97 27 rfl zW)))))) (fun e_ => ?_)
   refine (show TU _ _ _ 2 _ _ _ from ?_)
   refine TU.one 28 z_F rfl rfl (V1.t (V1.indexAddrA ty_193 sz_37 rfl rfl (by omega) (by omega)) ?_)
   refine TU.one 29 z_F rfl rfl (T1.storeE (o := 0 + (16 + j) * 1) (cells := (WW.take (16 + j)).map w32 ++ List.replicate (64 - (16 + j)) (.int .u32 0)) (cells' := (WW.take (16 + j + 1)).map w32 ++ List.replicate (64 - (16 + j + 1)) (.int .u32 0)) rfl (congrArg w32 hWi.symm) sz_37 rfl (by rw [show 0 + (16 + j) * 1 - 0 = 16 + j from by omega]; exact fill_set 0 hWl (by omega)) z_H (Nat.zero_le _) (by rw [List.length_append, List.length_map, List.length_take, List.length_replicate]; omega) ?_)
   refine TU.done z_F ?_
   refine T.region (zq1 (V1.add rfl rfl (wrap_i64 _ (by omega) (by omega))) ?_)
   exact ⟨16 + j + 1, _, _, z_N, (.cons rfl .nil), (.cons rfl (.cons rfl (.cons rfl .nil))), z_B, ⟨rfl, by omega⟩⟩
 ·
  obtain rfl : i = 64 := by omega
  refine zs ?_
  refine T.cond_f rfl (zs ?_)
  refine TL.cons rfl (T1.call0 has_128 rfl (fun w hs => table_any w) (fun v hv => ?_))
  subst hv
  refine TL.cons rfl (T1.allocN 80 zr_195 rfl (fun b8 => ?_))
  refine TL.cons rfl (T1.storeN rfl rfl sz_195 (by intro u hu; obtain ⟨k, _, rfl⟩ := List.mem_map.1 hu; rfl) z_H (by kernel_rfl) (by kernel_rfl) ?_)
  refine TL.nil ?_
  refine T.seq (T.drawDet' mixed z_F ?_)
  refine zd 0 (zO 0 zZ) (V1.move' z_C) ?_
  refine zd 1 (zN 101 0 rfl zZ) (V1.nilCheck rfl) ?_
  refine zd 2 (zN 102 1 rfl zZ) (V1.fieldAddr fl_173_1 rfl) ?_
  refine zd 3 (zN 103 2 rfl zZ) (V1.indexAddrA ty_169 sz_37 rfl rfl (by decide) (by decide)) ?_
  refine Det.cons 4 (zN 104 3 rfl zZ) (fun e_ => .inl ⟨rfl, V1.t (V1.load1 one_37 rfl (.own z_A (by rfl))) ⟨rfl, rfl⟩⟩) ?_
  refine zd 5 (zO 0 zZ) (V1.move' z_C) ?_
  refine zd 6 (zN 106 5 rfl zZ) (V1.nilCheck rfl) ?_
  refine zd 7 (zN 107 6 rfl zZ) (V1.fieldAddr fl_173_1 rfl) ?_
  refine zd 8 (zN 108 7 rfl zZ) (V1.indexAddrA ty_169 sz_37 rfl rfl (by decide) (by decide)) ?_
  refine Det.cons 9 (zN 109 8 rfl zZ) (fun e_ => .inl ⟨rfl, V1.t (V1.load1 one_37 rfl (.own z_A (by rfl))) ⟨rfl, rfl⟩⟩) ?_
  refine zd 10 (zO 0 zZ) (V1.move' z_C) ?_
  refine zd 11 (zN 111 10 rfl zZ) (V1.nilCheck rfl) ?_
  refine zd 12 (zN 112 11 rfl zZ) (V1.fieldAddr fl_173_1 rfl) ?_
  refine zd 13 (zN 113 12 rfl zZ) (V1.indexAddrA ty_169 sz_37 rfl rfl (by decide) (by decide)) ?_
  refine Det.cons 14 (zN 114 13 rfl zZ) (fun e_ => .inl ⟨rfl, V1.t (V1.load1 one_37 rfl (.own z_A (by rfl))) ⟨rfl, rfl⟩⟩) ?_
  refine zd 15 (zO 0 zZ) (V1.move' z_C) ?_
  refine zd 16 (zN 116 15 rfl zZ) (V1.nilCheck rfl) ?_
  refine zd 17 (zN 117 16 rfl zZ) (V1.fieldAddr fl_173_1 rfl) ?_
  refine zd 18 (zN 118 17 rfl zZ) (V1.indexAddrA ty_169 sz_37 rfl rfl (by decide) (by decide)) ?_
  refine Det.cons 19 (zN 119 18 rfl zZ) (fun e_ => .inl ⟨rfl, V1.t (V1.load1 one_37 rfl (.own z_A (by rfl))) ⟨rfl, rfl⟩⟩) ?_
  refine zd 20 (zO 0 zZ) (V1.move' z_C) ?_
  refine zd 21 (zN 121 20 rfl zZ) (V1.nilCheck rfl) ?_
  refine zd 22 (zN 122 21 rfl zZ) (V1.fieldAddr fl_173_1 rfl) ?_
  refine zd 23 (zN 123 22 rfl zZ) (V1.indexAddrA ty_169 sz_37 rfl rfl (by decide) (by decide)) ?_
  refine Det.cons 24 (zN 124 23 rfl zZ) (fun e_ => .inl ⟨rfl, V1.t (V1.load1 one_37 rfl (.own z_A (by rfl))) ⟨rfl, rfl⟩⟩) ?_
  refine zd 25 (zO 0 zZ) (V1.move' z_C) ?_
  refine zd 26 (zN 126 25 rfl zZ) (V1.nilCheck rfl) ?_
  refine zd 27 (zN 127 26 rfl zZ) (V1.fieldAddr fl_173_1 rfl) ?_
  refine zd 28 (zN 128 27 rfl zZ) (V1.indexAddrA ty_169 sz_37 rfl rfl (by decide) (by decide)) ?_
  refine Det.cons 29 (zN 129 28 rfl zZ) (fun e_ => .inl ⟨rfl, V1.t (V1.load1 one_37 rfl (.own z_A (by rfl))) ⟨rfl, rfl⟩⟩) ?_
  refine zd 30 (zO 0 zZ) (V1.move' z_C) ?_
  refine zd 31 (zN 131 30 rfl zZ) (V1.nilCheck rfl) ?_
  refine zd 32 (zN 132 31 rfl zZ) (V1.fieldAddr fl_173_1 rfl) ?_
  refine zd 33 (zN 133 32 rfl zZ) (V1.indexAddrA ty_169 sz_37 rfl rfl (by decide) (by decide)) ?_
  refine Det.cons 34 (zN 134 33 rfl zZ) (fun e_ => .inl ⟨rfl, V1.t (V1.load1 one_37 rfl (.own z_A (by rfl))) ⟨rfl, rfl⟩⟩) ?_
  refine zd 35 (zO 0 zZ) (V1.move' z_C) ?_
  refine zd 36 (zN 136 35 rfl zZ) (V1.nilCheck rfl) ?_
  refine zd 37 (zN 137 36 rfl zZ) (V1.fieldAddr fl_173_1 rfl) ?_
  refine zd 38 (zN 138 37 rfl zZ) (V1.indexAddrA ty_169 sz_37 rfl rfl (by decide) (by decide)) ?_
  refine Det.cons 39 (zN 139 38 rfl zZ) (fun e_ => .inl ⟨rfl, V1.t (V1.load1 one_37 rfl (.own z_A (by rfl))) ⟨rfl, rfl⟩⟩) ?_
  refine zd 40 (zN 105 4 rfl zZ) (V1.assign' z_C) ?_
  refine zd 41 (zN 110 9 rfl zZ) (V1.assign' z_C) ?_
  refine zd 42 (zN 115 14 rfl zZ) (V1.assign' z_C) ?_
  refine zd 43 (zN 120 19 rfl zZ) (V1.assign' z_C) ?_
  refine zd 44 (zN 125 24 rfl zZ) (V1.assign' z_C) ?_
  refine zd 45 (zN 130 29 rfl zZ) (V1.assign' z_C) ?_
  refine zd 46 (zN 135 34 rfl zZ) (V1.assign' z_C) ?_
  refine zd 47 (zN 140 39 rfl zZ) (V1.assign' z_C) ?_
  refine Det.nil 48 (zQ 0 (zQ 4 (zQ 8 (zR 9 40 rfl (zR 10 41 rfl (zR 11 42 rfl (zR 12 43 rfl (zR 13 44 rfl (zR 14 45 rfl (zR 15 46 rfl (zR 16 47 rfl zW))))))))))) (fun e_ => ?_)
  refine T.seq (T.seq (T.region (z1 ?_)))
  refine T.block (T.loopL (σ := Nat) (l0 := [(0, _), (4, _), (8, _)]) (fun x => [(141, .int .i64 (x : Nat)), (9, w32 (rnds T256 WW st x).a), (10, w32 (rnds T256 WW st x).b), (11, w32 (rnds T256 WW st x).c), (12, w32 (rnds T256 WW st x).d), (13, w32 (rnds T256 WW st x).e), (14, w32 (rnds T256 WW st x).f), (15, w32 (rnds T256 WW st x).g), (16, w32 (rnds T256 WW st x).h)]) (fun x L => L = ⟨b8, 0, tableV, 80⟩ :: ⟨b4, 0, (WW.take 64).map w32 ++ List.replicate (64 - 64) (.int .u32 0), 64⟩ :: ⟨bh, 0, [s, w64 n, w32 st.a, w32 st.b, w32 st.c, w32 st.d, w32 st.e, w32 st.f, w32 st.g, w32 st.h], 10⟩ :: ⟨bp, op, l.map byteV, size⟩ :: G ∧ x ≤ 64) (fun x => 64 - x) 0 (.cons rfl (.cons rfl (.cons rfl (.cons rfl (.cons rfl (.cons rfl (.cons rfl (.cons rfl (.cons rfl .nil))))))))) zT z_B (⟨rfl, Nat.zero_le _⟩) ?_)
  rintro i e_ L ⟨rfl, hi⟩
  refine zs ?_
  refine TL.cons rfl (T1.ltI_split rfl rfl (fun h12_0 => ?_) (fun h12_0 => ?_))
  ·
   refine zs ?_
   refine T.cond_t rfl (T.skip (T.seq (T.block (T.seq (T.region (z1 ?_))))))
   refine T.seq (T.drawDet' mixed z_F ?_)
   refine zd 0 (zO 16 zZ) (V1.move' z_C) ?_
   refine zd 1 (zO 13 zZ) (V1.move' z_C) ?_
   refine Det.cons 2 (v := w32 (rotr ((rnds T256 WW st i).e) 6)) (zN 145 1 rfl zZ) (fun e_ => .inl ⟨rfl, ?_⟩) ?_
   ·
    refine T1.call0 has_127 rfl (fun w hs => RotL32_any _ _ w) (fun v hv => ?_)
    rw [RL32_26] at hv
    subst hv
    exact ⟨rfl, rfl⟩
   refine zd 3 (zO 13 zZ) (V1.move' z_C) ?_
   refine Det.cons 4 (v := w32 (rotr ((rnds T256 WW st i).e) 11)) (zN 147 3 rfl zZ) (fun e_ => .inl ⟨rfl, ?_⟩) ?_
   ·
    refine T1.call0 has_127 rfl (fun w hs => RotL32_any _ _ w) (fun v hv => ?_)
    rw [RL32_21] at hv
    subst hv
    exact ⟨rfl, rfl⟩
   refine zd 5 (zN 146 2 rfl (zN 148 4 rfl zZ)) (V1.xorW u32U rfl rfl) ?_
   refine zd 6 (zO 13 zZ) (V1.move' z_C) ?_
   refine Det.cons 7 (v := w32 (rotr ((rnds T256 WW st i).e) 25)) (zN 150 6 rfl zZ) (fun e_ => .inl ⟨rfl, ?_⟩) ?_
   ·
    refine T1.call0 has_127 rfl (fun w hs => RotL32_any _ _ w) (fun v hv => ?_)
    rw [RL32_7] at hv
    subst hv
    exact ⟨rfl, rfl⟩
   refine zd 8 (zN 149 5 rfl (zN 151 7 rfl zZ)) (V1.xorW u32U rfl rfl) ?_
   refine zd 9 (zN 144 0 rfl (zN 152 8 rfl zZ)) (V1.addW u32U rfl rfl) ?_
   refine zd 10 (zO 13 zZ) (V1.move' z_C) ?_
   refine zd 11 (zO 14 zZ) (V1.move' z_C) ?_
   refine zd 12 (zN 154 10 rfl (zN 155 11 rfl zZ)) (V1.andW u32U rfl rfl) ?_
   refine zd 13 (zO 13 zZ) (V1.move' z_C) ?_
   refine zd 14 (zN 157 13 rfl zZ) (V1.complW u32U rfl) ?_
   refine zd 15 (zO 15 zZ) (V1.move' z_C) ?_
   refine zd 16 (zN 158 14 rfl (zN 159 15 rfl zZ)) (V1.andW u32U rfl rfl) ?_
   refine zd 17 (zN 156 12 rfl (zN 160 16 rfl zZ)) (V1.xorW u32U rfl rfl) ?_
   refine zd 18 (zN 153 9 rfl (zN 161 17 rfl zZ)) (V1.addW u32U rfl rfl) ?_
   refine zd 19 (zO 17 zZ) (V1.move' z_C) ?_
   refine zd 20 (zO 8 (zN 163 19 rfl zZ)) (V1.indexAddrA ty_195 sz_79 rfl rfl (by omega) (by omega)) ?_
   refine Det.cons 21 (zN 164 20 rfl zZ) (fun e_ => .inl ⟨rfl, V1.t (V1.load1 one_79 rfl (show Rd _ _ ⟨b8, 0 + i * 1, none⟩ (w64 (Sh.table.getD i 0)) from by rw [Nat.mul_one]; exact Rd.at z_A (tableV_get (by omega)))) ⟨rfl, rfl⟩⟩) ?_
   refine zd 22 (zN 165 21 rfl zZ) (V1.shrW (k := 32) u64U rfl rfl) ?_
   refine zd 23 (zN 166 22 rfl zZ) (V1.convW 32 u32U ty_79 ty_37 rfl) ?_
   refine zd 24 (zN 162 18 rfl (zN 167 23 rfl zZ)) (V1.addW u32U rfl rfl) ?_
   refine zd 25 (zO 17 zZ) (V1.move' z_C) ?_
   refine zd 26 (zO 4 (zN 169 25 rfl zZ)) (V1.indexAddrA ty_193 sz_37 rfl rfl (by omega) (by omega)) ?_
   refine Det.cons 27 (zN 170 26 rfl zZ) (fun e_ => .inl ⟨rfl, V1.t (V1.load1 one_37 rfl (show Rd _ _ ⟨b4, 0 + i * 1, none⟩ (w32 (WW.getD i 0)) from by rw [Nat.mul_one]; exact Rd.at z_A (fill_get 0 (by omega) (by omega)))) ⟨rfl, rfl⟩⟩) ?_
   refine zd 28 (zN 168 24 rfl (zN 171 27 rfl zZ)) (V1.addW u32U rfl rfl) ?_
   refine zd 29 (zN 172 28 rfl zZ) (V1.assign' z_C) ?_
   refine Det.nil 30 (zQ 0 (zQ 4 (zQ 8 (zQ 9 (zQ 10 (zQ 11 (zQ 12 (zQ 13 (zQ 14 (zQ 15 (zR 18 29 rfl (zQ 141 zW)))))))))))) (fun e_ => ?_)
   refine zs ?_
   refine TL.cons rfl (T1.call0 has_127 rfl (fun w hs => RotL32_any _ _ w) (fun v hv => ?_))
   rw [RL32_30] at hv
   subst hv
   refine zs ?_
   refine TL.cons rfl (T1.call0 has_127 rfl (fun w hs => RotL32_any _ _ w) (fun v hv => ?_))
   rw [RL32_19] at hv
   subst hv
   refine zq (V1.xorW u32U rfl rfl) ?_
   refine TL.cons rfl (T1.call0 has_127 rfl (fun w hs => RotL32_any _ _ w) (fun v hv => ?_))
   rw [RL32_10] at hv
   subst hv
   refine zq (V1.xorW u32U rfl rfl) ?_
   refine zq (V1.andW u32U rfl rfl) ?_
   refine z0 (V1.andW u32U rfl rfl) ?_
   refine zq (V1.xorW u32U rfl rfl) ?_
   refine z0 (V1.andW u32U rfl rfl) ?_
   refine z0 (V1.xorW u32U rfl rfl) ?_
   refine zq1 (V1.addW u32U rfl rfl) ?_
   refine T.live (l := [(0, _), (4, _), (8, _), (9, _), (10, _), (11, _), (12, _), (13, _), (14, _), (15, _), (18, _), (19, _), (141, _)]) zT (fun e_ => ?_)
   refine zs ?_
   refine zq (V1.addW u32U rfl rfl) ?_
   refine zq1 (V1.addW u32U rfl rfl) ?_
   refine T.live (l := [(0, _), (4, _), (8, _), (9, _), (10, _), (11, _), (12, _), (13, _), (14, _), (15, _), (16, _), (141, _)]) zT (fun e_ => ?_)
   refine T.region (zq1 (V1.add rfl rfl (wrap_i64 _ (by omega) (by omega))) ?_)
   exact ⟨i + 1, _, _, z_N, (.cons rfl (.cons rfl (.cons rfl (.cons rfl (.cons rfl (.cons rfl (.cons rfl (.cons rfl (.cons rfl .nil))))))))), (.cons rfl (.cons rfl (.cons rfl .nil))), z_B, ⟨rfl, by omega⟩⟩
  ·
   obtain rfl : i = 64 := by omega
   refine zs ?_
   refine T.cond_f rfl (zs ?_)
   refine zq1 (V1.buildFA ty_169 sz_37 zr_169 (.one rfl z_C rfl (.one rfl z_C rfl (.one rfl z_C rfl (.one rfl z_C rfl (.one rfl z_C rfl (.one rfl z_C rfl (.one rfl z_C rfl (.one rfl z_C rfl .nil)))))))) z_I) ?_
   refine T.block (T.loopL (σ := Nat) (l0 := [(0, _), (214, _)]) (fun x => [(215, .int .i64 (x : Nat))]) (fun x L => L = ⟨bh, 0, s :: w64 n :: (((stL (addR st (rnds T256 WW st 64))).map w32).take x ++ ((stL st).map w32).drop x), 10⟩ :: ⟨bp, op, l.map byteV, size⟩ :: G ∧ x ≤ 8) (fun x => 8 - x) 0 (.cons rfl .nil) zT z_B (⟨rfl, Nat.zero_le _⟩) ?_)
   rintro i e_ L ⟨rfl, hi⟩
   refine zs ?_
   refine TL.cons rfl (T1.ltI_split rfl rfl (fun h19_0 => ?_) (fun h19_0 => ?_))
   ·
    refine zs ?_
    refine T.cond_t rfl (zs ?_)
    refine zq1 (V1.indexA ty_169 sz_37 rfl rfl (by omega) (by omega) (fun w => run_part1 one_37 (show ((stL (rnds T256 WW st 64)).map w32).toArray[i * 1]? = some (w32 ((stL (rnds T256 WW st 64)).getD i 0)) from stL_arr (by omega)) w)) ?_
    refine T.drawTail 10 mixed z_F (by rfl) z_F rfl ?_
    refine zd 0 (zO 0 zZ) (V1.move' z_C) ?_
    refine zd 1 (zO 20 zZ) (V1.move' z_C) ?_
    refine zd 2 (zN 219 0 rfl zZ) (V1.nilCheck rfl) ?_
    refine zd 3 (zN 221 2 rfl zZ) (V1.fieldAddr fl_173_1 rfl) ?_
    refine zd 4 (zN 220 1 rfl (zN 222 3 rfl zZ)) (V1.indexAddrA ty_169 sz_37 rfl rfl (by omega) (by omega)) ?_
    refine Det.cons 5 (zN 223 4 rfl zZ) (fun e_ => .inl ⟨rfl, V1.t (V1.load1 one_37 rfl (show Rd _ _ ⟨bh, 0 + 2 + i * 1, none⟩ (w32 ((stL st).getD i 0)) from by rw [show 0 + 2 + i * 1 = 0 + (i + 2) from by omega]; exact Rd.at z_A (show (s :: w64 n :: (((stL (addR st (rnds T256 WW st 64))).map w32).take i ++ ((stL st).map w32).drop i))[i + 2]? = some (w32 ((stL st).getD i 0)) from (mix_get (by simp [stL]) (by simp [stL]; omega)).trans (stL_map (by omega))))) ⟨rfl, rfl⟩⟩) ?_
    refine zd 6 (zO 21 zZ) (V1.move' z_C) ?_
    refine zd 7 (zN 224 5 rfl (zN 225 6 rfl zZ)) (V1.addW u32U rfl rfl) ?_
    refine zd 8 (zN 219 0 rfl zZ) (V1.nilCheck rfl) ?_
    refine zd 9 (zN 227 8 rfl zZ) (V1.fieldAddr fl_173_1 rfl) ?_
    refine Det.nil 10 (zQ 0 (zQ 214 (zQ 215 (zR 220 1 rfl (zR 226 7 rfl (zR 228 9 rfl zW)))))) (fun e_ => ?_)
    refine (show TU _ _ _ 2 _ _ _ from ?_)
    refine TU.one 10 z_F rfl rfl (V1.t (V1.indexAddrA ty_169 sz_37 rfl rfl (by omega) (by omega)) ?_)
    refine TU.one 11 z_F rfl rfl (T1.storeE (o := 0 + 2 + i * 1) (cells := s :: w64 n :: (((stL (addR st (rnds T256 WW st 64))).map w32).take i ++ ((stL st).map w32).drop i)) (cells' := s :: w64 n :: (((stL (addR st (rnds T256 WW st 64))).map w32).take (i + 1) ++ ((stL st).map w32).drop (i + 1))) rfl (congrArg w32 (addR_get st (rnds T256 WW st 64) i).symm) sz_37 rfl (by rw [show 0 + 2 + i * 1 - 0 = i + 2 from by omega]; show s :: w64 n :: List.set _ i _ = _; rw [mix_set (by simp [stL]) (stL_map (by omega))]) z_H (Nat.zero_le _) (by simp only [List.length_cons, List.length_append, List.length_take, List.length_drop, List.length_map]; simp only [stL, List.length_cons, List.length_nil]; omega) ?_)
    refine TU.done z_F ?_
    refine T.region (zq1 (V1.add rfl rfl (wrap_i64 _ (by omega) (by omega))) ?_)
    exact ⟨i + 1, _, _, z_N, (.cons rfl .nil), (.cons rfl (.cons rfl .nil)), z_B, ⟨rfl, by omega⟩⟩
   ·
    obtain rfl : i = 8 := by omega
    rw [mix_end]
    refine zs ?_
    refine T.cond_f rfl (T.exit ?_)
    exact ⟨_, ⟨bh, 0, [s, w64 n, w32 (addR st (rnds T256 WW st 64)).a, w32 (addR st (rnds T256 WW st 64)).b, w32 (addR st (rnds T256 WW st 64)).c, w32 (addR st (rnds T256 WW st 64)).d, w32 (addR st (rnds T256 WW st 64)).e, w32 (addR st (rnds T256 WW st 64)).f, w32 (addR st (rnds T256 WW st 64)).g, w32 (addR st (rnds T256 WW st 64)).h], 10⟩ :: ⟨bp, op, l.map byteV, size⟩ :: G, _, .nil, z_B, [⟨bh, 0, [s, w64 n, w32 (addR st (rnds T256 WW st 64)).a, w32 (addR st (rnds T256 WW st 64)).b, w32 (addR st (rnds T256 WW st 64)).c, w32 (addR st (rnds T256 WW st 64)).d, w32 (addR st (rnds T256 WW st 64)).e, w32 (addR st (rnds T256 WW st 64)).f, w32 (addR st (rnds T256 WW st 64)).g, w32 (addR st (rnds T256 WW st 64)).h], 10⟩, ⟨bp, op, l.map byteV, size⟩], rfl, by rw [hB]⟩
end Go.Proofs.YtfjedhmffccgnaaGreatDoor.S
