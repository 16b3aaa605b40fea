/- Turning, the table, and one block of SHA-256. -/
import Derived.Test.YtmolpgnekcfimaaTypes
import Derived.Test.YtmolpgnekcfimaaShaSpec2
namespace Go.Proofs.Ytmolpgnekcfimaa.S
open Go.RowKit

open Sh
abbrev w32 (x : BitVec 32) : Value := .int .u32 (x.toNat : Int)
abbrev w64 (x : BitVec 64) : Value := .int .u64 (x.toNat : Int)
def RL32 (x : BitVec 32) (k : Int) : BitVec 32 := (x <<< (BitVec.ofInt 64 k &&& 31#64).toNat) ||| (x >>> (32#64 - (BitVec.ofInt 64 k &&& 31#64)).toNat)
def RL64 (x : BitVec 64) (k : Int) : BitVec 64 := (x <<< (BitVec.ofInt 64 k &&& 63#64).toNat) ||| (x >>> (64#64 - (BitVec.ofInt 64 k &&& 63#64)).toNat)
theorem RL32_25 (x : BitVec 32) : RL32 x 25 = rotr x 7 := by kernel_rfl
theorem RL32_14 (x : BitVec 32) : RL32 x 14 = rotr x 18 := by kernel_rfl
theorem RL32_15 (x : BitVec 32) : RL32 x 15 = rotr x 17 := by kernel_rfl
theorem RL32_13 (x : BitVec 32) : RL32 x 13 = rotr x 19 := by kernel_rfl
theorem RL32_26 (x : BitVec 32) : RL32 x 26 = rotr x 6 := by kernel_rfl
theorem RL32_21 (x : BitVec 32) : RL32 x 21 = rotr x 11 := by kernel_rfl
theorem RL32_7 (x : BitVec 32) : RL32 x 7 = rotr x 25 := by kernel_rfl
theorem RL32_30 (x : BitVec 32) : RL32 x 30 = rotr x 2 := by kernel_rfl
theorem RL32_19 (x : BitVec 32) : RL32 x 19 = rotr x 13 := by kernel_rfl
theorem RL32_10 (x : BitVec 32) : RL32 x 10 = rotr x 22 := by kernel_rfl

def tableV : List Value := Sh.table.map w64
theorem table_len : Sh.table.length = 80 := rfl
theorem tableV_get {i : Nat} (h : i < 80) : tableV[i]? = some (w64 (Sh.table.getD i 0)) := by
  unfold tableV
  rw [List.getElem?_map, List.getD_eq_getElem?_getD, List.getElem?_eq_getElem (show i < Sh.table.length from h)]; rfl
theorem fill_set {α : Type} {f : α → Value} {WW : List α} {z : Value} {m i : Nat} (d : α) (hl : WW.length = m) (hi : i < m) : ((WW.take i).map f ++ List.replicate (m - i) z).set i (f (WW.getD i d)) = (WW.take (i + 1)).map f ++ List.replicate (m - (i + 1)) z := by
  rw [List.set_append_right _ _ (by rw [List.length_map, List.length_take]; omega), List.length_map, List.length_take, Nat.min_eq_left (by omega), Nat.sub_self,
    show m - i = (m - (i + 1)) + 1 from by omega, List.replicate_succ, List.set_cons_zero, List.take_add_one, List.getElem?_eq_getElem (by omega), List.map_append, List.append_assoc,
    List.getD_eq_getElem?_getD, List.getElem?_eq_getElem (by omega)]
  rfl
theorem fill_get {α : Type} {f : α → Value} {WW : List α} {Z : List Value} {i j : Nat} (d : α) (hl : i ≤ WW.length) (hj : j < i) : ((WW.take i).map f ++ Z)[j]? = some (f (WW.getD j d)) := by
  rw [List.getElem?_append_left (by rw [List.length_map, List.length_take]; omega), List.getElem?_map, List.getElem?_take_of_lt hj, List.getD_eq_getElem?_getD, List.getElem?_eq_getElem (by omega)]
  rfl
theorem mix_get {α : Type} {A B : List α} {i : Nat} (h : A.length = B.length) (hi : i < B.length) : (A.take i ++ B.drop i)[i]? = B[i]? := by
  rw [List.getElem?_append_right (by rw [List.length_take]; omega), List.length_take, Nat.min_eq_left (by omega), Nat.sub_self, List.getElem?_drop, Nat.add_zero]
theorem mix_set {α : Type} {A B : List α} {i : Nat} {x : α} (h : A.length = B.length) (hx : A[i]? = some x) : (A.take i ++ B.drop i).set i x = A.take (i + 1) ++ B.drop (i + 1) := by
  have hi : i < A.length := by
    rcases Nat.lt_or_ge i A.length with h' | h'
    · exact h'
    · rw [List.getElem?_eq_none h'] at hx; cases hx
  rw [List.set_append_right _ _ (by rw [List.length_take]; omega), List.length_take, Nat.min_eq_left (by omega), Nat.sub_self, List.take_add_one, hx]
  rw [List.drop_eq_getElem_cons (show i < B.length by omega), List.set_cons_zero, List.append_assoc]
  rfl
theorem stL_map {s : R8 32} {i : Nat} (h : i < 8) : ((stL s).map w32)[i]? = some (w32 ((stL s).getD i 0)) := by
  rw [List.getElem?_map, List.getD_eq_getElem?_getD, List.getElem?_eq_getElem (show i < (stL s).length from h)]; rfl
theorem stL_arr {s : R8 32} {i : Nat} (h : i < 8) : ((stL s).map w32).toArray[i * 1]? = some (w32 ((stL s).getD i 0)) := by
  rw [Nat.mul_one, List.getElem?_toArray]; exact stL_map h
theorem mix_end (X Y : R8 32) : ((stL X).map w32).take 8 ++ ((stL Y).map w32).drop 8 = [w32 X.a, w32 X.b, w32 X.c, w32 X.d, w32 X.e, w32 X.f, w32 X.g, w32 X.h] := rfl
theorem addR_get {w : Nat} (s t : R8 w) (i : Nat) : (stL (addR s t)).getD i 0 = (stL s).getD i 0 + (stL t).getD i 0 := by
  match i with
  | 0 | 1 | 2 | 3 | 4 | 5 | 6 | 7 => rfl
  | i + 8 => simp [stL]
theorem words_get {w : Nat} (b : List UInt8) {i : Nat} (h : i < 16) : (words w b).getD i 0 = word w ((b.drop (w / 8 * i)).take (w / 8)) := by
  unfold words
  rw [List.getD_eq_getElem?_getD, List.getElem?_map, List.getElem?_range h]; rfl
theorem words_len {w : Nat} (b : List UInt8) : (words w b).length = 16 := by simp [words]
theorem take4 {l : List UInt8} {p : Nat} (h : p + 4 ≤ l.length) : (l.drop p).take 4 = [l.getD p 0, l.getD (p + 1) 0, l.getD (p + 2) 0, l.getD (p + 3) 0] := by
  have e : ∀ j, p + j < l.length → l[p + j]? = some (l.getD (p + j) 0) := fun j hj => getD_some hj
  apply List.ext_getElem?
  intro j
  rw [List.getElem?_take]
  split
  · rename_i hj
    rw [List.getElem?_drop, e j (by omega)]
    match j, hj with
    | 0, _ => rfl
    | 1, _ => rfl
    | 2, _ => rfl
    | 3, _ => rfl
  · rename_i hj
    rw [List.getElem?_eq_none (by simp only [List.length_cons, List.length_nil]; omega)]
theorem map_byte_get {l : List UInt8} {m p : Nat} (h : p < m) (hm : m ≤ l.length) : (l.map byteV)[p]? = some (byteV ((l.take m).getD p 0)) := by
  rw [List.getElem?_map, List.getD_eq_getElem?_getD, List.getElem?_take_of_lt h, List.getElem?_eq_getElem (by omega)]; rfl

set_option maxRecDepth 100000 in
theorem RotL32_any (x : BitVec 32) (k : Int) (w : World) : Fn P 37 [w32 x, .int .i64 k] w [] (fun v Y => Y = [] ∧ v = w32 (RL32 x k)) := by
  refine Fn.of 17 [.tmp 4] Go.Proofs.Try.func37 rfl rfl rfl rfl ?_
  refine T.seq ?_
  refine T.region ?_
  refine TL.cons rfl (V1.t (V1.assign' (by (conv => lhs; whnf) <;> rfl)) ?_)
  refine TL.nil ?_
  refine T.seq ?_
  refine T.region ?_
  refine TL.cons rfl (V1.t (V1.move' (by (conv => lhs; whnf) <;> rfl)) ?_)
  refine TL.cons rfl (V1.t (V1.convI 64 u64U ty_3 ty_70 rfl) ?_)
  refine TL.cons rfl (V1.t (V1.andW (b := 31#64) u64U rfl rfl) ?_)
  refine TL.cons rfl (V1.t (V1.assign' (by (conv => lhs; whnf) <;> rfl)) ?_)
  refine TL.nil ?_
  refine T.seq ?_
  refine T.region ?_
  refine TL.cons rfl (V1.t (V1.move' (by (conv => lhs; whnf) <;> rfl)) ?_)
  refine TL.cons rfl (V1.t (V1.move' (by (conv => lhs; whnf) <;> rfl)) ?_)
  refine TL.cons rfl (V1.t (V1.shlW u32U rfl rfl) ?_)
  refine TL.cons rfl (V1.t (V1.move' (by (conv => lhs; whnf) <;> rfl)) ?_)
  refine TL.cons rfl (V1.t (V1.move' (by (conv => lhs; whnf) <;> rfl)) ?_)
  refine TL.cons rfl (V1.t (V1.subW (a := 32#64) u64U rfl rfl) ?_)
  refine TL.cons rfl (V1.t (V1.shrW u32U rfl rfl) ?_)
  refine TL.cons rfl (V1.t (V1.orW u32U rfl rfl) ?_)
  refine TL.cons rfl (V1.t (V1.assign' (by (conv => lhs; whnf) <;> rfl)) ?_)
  refine TL.nil ?_
  refine T.ret ?_
  exact ⟨_, [], _, .cons (.tmp (by (conv => lhs; whnf) <;> rfl)) .nil, Take.nil, rfl, rfl⟩

set_option maxRecDepth 100000 in
theorem table_any (w : World) : Fn P 38 [] w [] (fun v Y => Y = [] ∧ v = .agg tableV.toArray) := by
  refine Fn.of 2 [.cell 0 91] Go.Proofs.Try.func38 rfl rfl rfl rfl ?_
  refine T.seq ?_
  refine T.region ?_
  refine TL.cons rfl (T1.allocN 80 zr_91 rfl (fun b0 => ?_))
  refine TL.nil ?_
  refine T.seq ?_
  refine T.region ?_
  refine TL.cons rfl (V1.t (V1.buildA (cells := tableV.toArray) ty_91 sz_32 zr_91 (by kernel_rfl)) ?_)
  refine TL.cons rfl (T1.storeN rfl rfl sz_91 (by intro u hu; obtain ⟨k, _, rfl⟩ := List.mem_map.1 hu; rfl) (by repeat (first | exact Sub.one | apply Sub.there | apply Sub.far)) (by kernel_rfl) (by kernel_rfl) ?_)
  refine TL.nil ?_
  refine T.ret ?_
  exact ⟨_, [], _, .cons (.cellN (by (conv => lhs; whnf) <;> rfl) one_91 sz_91 (RdN.whole (by repeat (first | exact Find.here | assumption | apply Find.there | apply Find.far))) (by kernel_rfl)) .nil, Take.nil, rfl, rfl⟩

theorem W_load {l : List UInt8} {i : Nat} (hi : i < 16) (hl : 64 ≤ l.length) : (sched T256 (words 32 (l.take 64)) 48).getD i 0 =
    (((((((l.take 64).getD (4 * i + 0) 0).toBitVec.setWidth 32) <<< 24) ||| ((((l.take 64).getD (4 * i + 1) 0).toBitVec.setWidth 32) <<< 16)) ||| ((((l.take 64).getD (4 * i + 2) 0).toBitVec.setWidth 32) <<< 8)) ||| (((l.take 64).getD (4 * i + 3) 0).toBitVec.setWidth 32)) := by
  rw [sched_first T256 _ (by rw [words_len]; exact hi), words_get _ hi, word4]
  show word 32 (((l.take 64).drop (4 * i)).take 4) = _
  rw [take4 (by rw [List.length_take]; omega)]; rfl
theorem W_next {l : List UInt8} {j : Nat} (hj : j < 48) : (sched T256 (words 32 (l.take 64)) 48).getD (16 + j) 0 =
    (sched T256 (words 32 (l.take 64)) 48).getD j 0 + (sched T256 (words 32 (l.take 64)) 48).getD (j + 9) 0 + low T256 ((sched T256 (words 32 (l.take 64)) 48).getD (j + 1) 0) + high T256 ((sched T256 (words 32 (l.take 64)) 48).getD (j + 14) 0) :=
  sched_rec T256 _ (words_len _) hj

set_option maxRecDepth 100000 in
set_option maxHeartbeats 4000000 in
theorem block256_any (w0 : World) (bh bp op size cap : Nat) (s : Value) (n : BitVec 64) (st : R8 32) (l : List UInt8) (hl : 64 ≤ l.length) : FnX P 33 [.pointer (some ⟨bh, 0, none⟩), .slice (some ⟨bp, op, none⟩) 64 cap] w0 [] [⟨bh, 0, [s, w64 n, w32 st.a, w32 st.b, w32 st.c, w32 st.d, w32 st.e, w32 st.f, w32 st.g, w32 st.h], 10⟩, ⟨bp, op, l.map byteV, size⟩] (fun _ Y => Y = [⟨bh, 0, [s, w64 n, w32 (blockS T256 st (l.take 64)).a, w32 (blockS T256 st (l.take 64)).b, w32 (blockS T256 st (l.take 64)).c, w32 (blockS T256 st (l.take 64)).d, w32 (blockS T256 st (l.take 64)).e, w32 (blockS T256 st (l.take 64)).f, w32 (blockS T256 st (l.take 64)).g, w32 (blockS T256 st (l.take 64)).h], 10⟩, ⟨bp, op, l.map byteV, size⟩]) := by
  obtain ⟨WW, hWW⟩ : ∃ WW, WW = sched T256 (words 32 (l.take 64)) 48 := ⟨_, rfl⟩
  have hWl : WW.length = 64 := by rw [hWW, sched_len, words_len]
  have hB : blockS T256 st (l.take 64) = addR st (rnds T256 WW st 64) := by rw [hWW]; kernel_rfl
  refine FnX.of 231 [] Go.Proofs.Try.func33 rfl rfl rfl rfl (fun G => ?_)
  refine T.seq ?_
  refine T.region ?_
  refine TL.cons rfl (T1.allocN 64 zr_89 rfl (fun b4 => ?_))
  refine TL.nil ?_
  refine T.seq ?_
  refine T.seq ?_
  refine T.region ?_
  refine TL.cons rfl (V1.t (V1.move' (by (conv => lhs; whnf) <;> rfl)) ?_)
  refine TL.nil ?_
  refine T.block ?_
  refine T.loopL (σ := Nat) (l0 := [(0, _), (1, _), (4, _)]) (fun x => [(22, .int .i64 (x : Nat))]) (fun x L => L = ⟨b4, 0, (WW.take (x)).map w32 ++ List.replicate (64 - (x)) (.int .u32 0), 64⟩ :: ⟨bh, 0, [s, w64 n, w32 st.a, w32 st.b, w32 st.c, w32 st.d, w32 st.e, w32 st.f, w32 st.g, w32 st.h], 10⟩ :: ⟨bp, op, l.map byteV, size⟩ :: G ∧ x ≤ 64) (fun x => 64 - x) 0 (.cons rfl .nil) (.cons (by (conv => lhs; whnf) <;> rfl) (.cons (by (conv => lhs; whnf) <;> rfl) (.cons (by (conv => lhs; whnf) <;> rfl) .nil))) (by repeat (first | exact Take.nil | apply Take.one (by repeat (first | exact Pick.here | apply Pick.there | apply Pick.far)) | apply Take.seg (by repeat (first | exact PickS.last | exact PickS.one | exact PickS.here | exact PickS.nil | apply PickS.there | apply PickS.far)) | exact Take.last (by repeat (first | exact PickS.last | exact PickS.one | exact PickS.here | exact PickS.nil | apply PickS.there | apply PickS.far)))) (⟨rfl, Nat.zero_le _⟩) ?_
  rintro i e_ L ⟨rfl, hi⟩
  refine T.seq ?_
  refine T.region ?_
  refine TL.cons rfl (T1.ltI_split rfl rfl (fun h2_0 => ?_) (fun h2_0 => ?_))
  ·
    refine TL.nil ?_
    refine T.seq ?_
    refine T.cond_t rfl ?_
    refine T.skip ?_
    refine T.seq ?_
    refine T.block ?_
    refine T.seq ?_
    refine T.region ?_
    refine TL.cons rfl (V1.t (V1.move' (by (conv => lhs; whnf) <;> rfl)) ?_)
    refine TL.cons rfl (V1.t (V1.assign' (by (conv => lhs; whnf) <;> rfl)) ?_)
    refine TL.nil ?_
    refine T.seq ?_
    refine T.seq ?_
    refine T.region ?_
    refine TL.cons rfl (V1.t (V1.move' (by (conv => lhs; whnf) <;> rfl)) ?_)
    refine TL.cons rfl (T1.ltI_split rfl rfl (fun h4_1 => ?_) (fun h4_1 => ?_))
    ·
      have hWi := W_load (l := l) (i := i) (by omega) hl
      rw [← hWW] at hWi
      refine TL.nil ?_
      refine T.cond_t rfl ?_
      refine T.seq ?_
      refine T.drawTail 34 mixed (by decide +kernel) (by rfl) (by decide +kernel) rfl ?_
      refine Det.cons 0 (ins := [(5, _)]) (.old (by (conv => lhs; whnf) <;> rfl) (by decide +kernel) .nil) (fun e_ => .inl ⟨rfl, V1.t (V1.move' (by (conv => lhs; whnf) <;> rfl)) ⟨rfl, rfl⟩⟩) ?_
      refine Det.cons 1 (ins := [(1, _)]) (.old (by (conv => lhs; whnf) <;> rfl) (by decide +kernel) .nil) (fun e_ => .inl ⟨rfl, V1.t (V1.move' (by (conv => lhs; whnf) <;> rfl)) ⟨rfl, rfl⟩⟩) ?_
      refine Det.cons 2 (ins := [(5, _)]) (.old (by (conv => lhs; whnf) <;> rfl) (by decide +kernel) .nil) (fun e_ => .inl ⟨rfl, V1.t (V1.move' (by (conv => lhs; whnf) <;> rfl)) ⟨rfl, rfl⟩⟩) ?_
      refine Det.cons 3 (ins := [(29, _)]) (.new 2 0 (by decide +kernel) rfl rfl .nil) (fun e_ => .inl ⟨rfl, V1.t (V1.mul rfl rfl (wrap_i64 _ (by omega) (by omega))) ⟨rfl, rfl⟩⟩) ?_
      refine Det.cons 4 (ins := [(28, _), (30, _)]) (.new 1 2 (by decide +kernel) rfl rfl (.new 3 0 (by decide +kernel) rfl rfl .nil)) (fun e_ => .inl ⟨rfl, V1.t (V1.indexAddrS ty_33 sz_5 rfl rfl (by omega) (by omega)) ⟨rfl, rfl⟩⟩) ?_
      refine Det.cons 5 (ins := [(31, _)]) (.new 4 0 (by decide +kernel) rfl rfl .nil) (fun e_ => .inl ⟨rfl, V1.t (V1.load1 one_5 rfl (show Rd _ _ ⟨bp, op + (4 * i + 0) * 1, none⟩ (byteV ((l.take 64).getD (4 * i + 0) 0)) from by rw [Nat.mul_one]; exact Rd.at (by repeat (first | exact Find.here | assumption | apply Find.there | apply Find.far)) (map_byte_get (by omega) hl))) ⟨rfl, rfl⟩⟩) ?_
      refine Det.cons 6 (ins := [(32, _)]) (.new 5 0 (by decide +kernel) rfl rfl .nil) (fun e_ => .inl ⟨rfl, V1.t (V1.convW 32 u32U ty_5 ty_77 rfl) ⟨rfl, rfl⟩⟩) ?_
      refine Det.cons 7 (ins := [(33, _)]) (.new 6 0 (by decide +kernel) rfl rfl .nil) (fun e_ => .inl ⟨rfl, V1.t (V1.shlW (k := 24) u32U rfl rfl) ⟨rfl, rfl⟩⟩) ?_
      refine Det.cons 8 (ins := [(1, _)]) (.old (by (conv => lhs; whnf) <;> rfl) (by decide +kernel) .nil) (fun e_ => .inl ⟨rfl, V1.t (V1.move' (by (conv => lhs; whnf) <;> rfl)) ⟨rfl, rfl⟩⟩) ?_
      refine Det.cons 9 (ins := [(5, _)]) (.old (by (conv => lhs; whnf) <;> rfl) (by decide +kernel) .nil) (fun e_ => .inl ⟨rfl, V1.t (V1.move' (by (conv => lhs; whnf) <;> rfl)) ⟨rfl, rfl⟩⟩) ?_
      refine Det.cons 10 (ins := [(36, _)]) (.new 9 0 (by decide +kernel) rfl rfl .nil) (fun e_ => .inl ⟨rfl, V1.t (V1.mul rfl rfl (wrap_i64 _ (by omega) (by omega))) ⟨rfl, rfl⟩⟩) ?_
      refine Det.cons 11 (ins := [(37, _)]) (.new 10 0 (by decide +kernel) rfl rfl .nil) (fun e_ => .inl ⟨rfl, V1.t (V1.add rfl rfl (wrap_i64 _ (by omega) (by omega))) ⟨rfl, rfl⟩⟩) ?_
      refine Det.cons 12 (ins := [(35, _), (38, _)]) (.new 8 3 (by decide +kernel) rfl rfl (.new 11 0 (by decide +kernel) rfl rfl .nil)) (fun e_ => .inl ⟨rfl, V1.t (V1.indexAddrS ty_33 sz_5 rfl rfl (by omega) (by omega)) ⟨rfl, rfl⟩⟩) ?_
      refine Det.cons 13 (ins := [(39, _)]) (.new 12 0 (by decide +kernel) rfl rfl .nil) (fun e_ => .inl ⟨rfl, V1.t (V1.load1 one_5 rfl (show Rd _ _ ⟨bp, op + (4 * i + 1) * 1, none⟩ (byteV ((l.take 64).getD (4 * i + 1) 0)) from by rw [Nat.mul_one]; exact Rd.at (by repeat (first | exact Find.here | assumption | apply Find.there | apply Find.far)) (map_byte_get (by omega) hl))) ⟨rfl, rfl⟩⟩) ?_
      refine Det.cons 14 (ins := [(40, _)]) (.new 13 0 (by decide +kernel) rfl rfl .nil) (fun e_ => .inl ⟨rfl, V1.t (V1.convW 32 u32U ty_5 ty_77 rfl) ⟨rfl, rfl⟩⟩) ?_
      refine Det.cons 15 (ins := [(41, _)]) (.new 14 0 (by decide +kernel) rfl rfl .nil) (fun e_ => .inl ⟨rfl, V1.t (V1.shlW (k := 16) u32U rfl rfl) ⟨rfl, rfl⟩⟩) ?_
      refine Det.cons 16 (ins := [(34, _), (42, _)]) (.new 7 8 (by decide +kernel) rfl rfl (.new 15 0 (by decide +kernel) rfl rfl .nil)) (fun e_ => .inl ⟨rfl, V1.t (V1.orW u32U rfl rfl) ⟨rfl, rfl⟩⟩) ?_
      refine Det.cons 17 (ins := [(1, _)]) (.old (by (conv => lhs; whnf) <;> rfl) (by decide +kernel) .nil) (fun e_ => .inl ⟨rfl, V1.t (V1.move' (by (conv => lhs; whnf) <;> rfl)) ⟨rfl, rfl⟩⟩) ?_
      refine Det.cons 18 (ins := [(5, _)]) (.old (by (conv => lhs; whnf) <;> rfl) (by decide +kernel) .nil) (fun e_ => .inl ⟨rfl, V1.t (V1.move' (by (conv => lhs; whnf) <;> rfl)) ⟨rfl, rfl⟩⟩) ?_
      refine Det.cons 19 (ins := [(45, _)]) (.new 18 0 (by decide +kernel) rfl rfl .nil) (fun e_ => .inl ⟨rfl, V1.t (V1.mul rfl rfl (wrap_i64 _ (by omega) (by omega))) ⟨rfl, rfl⟩⟩) ?_
      refine Det.cons 20 (ins := [(46, _)]) (.new 19 0 (by decide +kernel) rfl rfl .nil) (fun e_ => .inl ⟨rfl, V1.t (V1.add rfl rfl (wrap_i64 _ (by omega) (by omega))) ⟨rfl, rfl⟩⟩) ?_
      refine Det.cons 21 (ins := [(44, _), (47, _)]) (.new 17 3 (by decide +kernel) rfl rfl (.new 20 0 (by decide +kernel) rfl rfl .nil)) (fun e_ => .inl ⟨rfl, V1.t (V1.indexAddrS ty_33 sz_5 rfl rfl (by omega) (by omega)) ⟨rfl, rfl⟩⟩) ?_
      refine Det.cons 22 (ins := [(48, _)]) (.new 21 0 (by decide +kernel) rfl rfl .nil) (fun e_ => .inl ⟨rfl, V1.t (V1.load1 one_5 rfl (show Rd _ _ ⟨bp, op + (4 * i + 2) * 1, none⟩ (byteV ((l.take 64).getD (4 * i + 2) 0)) from by rw [Nat.mul_one]; exact Rd.at (by repeat (first | exact Find.here | assumption | apply Find.there | apply Find.far)) (map_byte_get (by omega) hl))) ⟨rfl, rfl⟩⟩) ?_
      refine Det.cons 23 (ins := [(49, _)]) (.new 22 0 (by decide +kernel) rfl rfl .nil) (fun e_ => .inl ⟨rfl, V1.t (V1.convW 32 u32U ty_5 ty_77 rfl) ⟨rfl, rfl⟩⟩) ?_
      refine Det.cons 24 (ins := [(50, _)]) (.new 23 0 (by decide +kernel) rfl rfl .nil) (fun e_ => .inl ⟨rfl, V1.t (V1.shlW (k := 8) u32U rfl rfl) ⟨rfl, rfl⟩⟩) ?_
      refine Det.cons 25 (ins := [(43, _), (51, _)]) (.new 16 8 (by decide +kernel) rfl rfl (.new 24 0 (by decide +kernel) rfl rfl .nil)) (fun e_ => .inl ⟨rfl, V1.t (V1.orW u32U rfl rfl) ⟨rfl, rfl⟩⟩) ?_
      refine Det.cons 26 (ins := [(1, _)]) (.old (by (conv => lhs; whnf) <;> rfl) (by decide +kernel) .nil) (fun e_ => .inl ⟨rfl, V1.t (V1.move' (by (conv => lhs; whnf) <;> rfl)) ⟨rfl, rfl⟩⟩) ?_
      refine Det.cons 27 (ins := [(5, _)]) (.old (by (conv => lhs; whnf) <;> rfl) (by decide +kernel) .nil) (fun e_ => .inl ⟨rfl, V1.t (V1.move' (by (conv => lhs; whnf) <;> rfl)) ⟨rfl, rfl⟩⟩) ?_
      refine Det.cons 28 (ins := [(54, _)]) (.new 27 0 (by decide +kernel) rfl rfl .nil) (fun e_ => .inl ⟨rfl, V1.t (V1.mul rfl rfl (wrap_i64 _ (by omega) (by omega))) ⟨rfl, rfl⟩⟩) ?_
      refine Det.cons 29 (ins := [(55, _)]) (.new 28 0 (by decide +kernel) rfl rfl .nil) (fun e_ => .inl ⟨rfl, V1.t (V1.add rfl rfl (wrap_i64 _ (by omega) (by omega))) ⟨rfl, rfl⟩⟩) ?_
      refine Det.cons 30 (ins := [(53, _), (56, _)]) (.new 26 3 (by decide +kernel) rfl rfl (.new 29 0 (by decide +kernel) rfl rfl .nil)) (fun e_ => .inl ⟨rfl, V1.t (V1.indexAddrS ty_33 sz_5 rfl rfl (by omega) (by omega)) ⟨rfl, rfl⟩⟩) ?_
      refine Det.cons 31 (ins := [(57, _)]) (.new 30 0 (by decide +kernel) rfl rfl .nil) (fun e_ => .inl ⟨rfl, V1.t (V1.load1 one_5 rfl (show Rd _ _ ⟨bp, op + (4 * i + 3) * 1, none⟩ (byteV ((l.take 64).getD (4 * i + 3) 0)) from by rw [Nat.mul_one]; exact Rd.at (by repeat (first | exact Find.here | assumption | apply Find.there | apply Find.far)) (map_byte_get (by omega) hl))) ⟨rfl, rfl⟩⟩) ?_
      refine Det.cons 32 (ins := [(58, _)]) (.new 31 0 (by decide +kernel) rfl rfl .nil) (fun e_ => .inl ⟨rfl, V1.t (V1.convW 32 u32U ty_5 ty_77 rfl) ⟨rfl, rfl⟩⟩) ?_
      refine Det.cons 33 (ins := [(52, _), (59, _)]) (.new 25 7 (by decide +kernel) rfl rfl (.new 32 0 (by decide +kernel) rfl rfl .nil)) (fun e_ => .inl ⟨rfl, V1.t (V1.orW u32U rfl rfl) ⟨rfl, rfl⟩⟩) ?_
      refine Det.nil 34 (l := [(0, _), (1, _), (4, _), (22, _), (27, _), (60, _)]) (.old (by (conv => lhs; whnf) <;> rfl) (by decide +kernel) (.old (by (conv => lhs; whnf) <;> rfl) (by decide +kernel) (.old (by (conv => lhs; whnf) <;> rfl) (by decide +kernel) (.old (by (conv => lhs; whnf) <;> rfl) (by decide +kernel) (.new 0 33 (by decide +kernel) rfl rfl (.new 33 0 (by decide +kernel) rfl rfl .nil)))))) (fun e_ => ?_)
      refine (show TU _ _ _ 2 _ _ _ from ?_)
      refine TU.one 34 (by decide +kernel) rfl rfl (V1.t (V1.indexAddrA ty_89 sz_77 rfl rfl (by omega) (by omega)) ?_)
      refine TU.one 35 (by decide +kernel) rfl rfl (T1.storeE (o := 0 + (i) * 1) (cells := (WW.take (i)).map w32 ++ List.replicate (64 - (i)) (.int .u32 0)) (cells' := (WW.take (i + 1)).map w32 ++ List.replicate (64 - (i + 1)) (.int .u32 0)) rfl (congrArg w32 hWi.symm) sz_77 rfl (by rw [show 0 + (i) * 1 - 0 = i from by omega]; exact fill_set 0 hWl (by omega)) (by repeat (first | exact Sub.one | apply Sub.there | apply Sub.far)) (Nat.zero_le _) (by rw [List.length_append, List.length_map, List.length_take, List.length_replicate]; omega) ?_)
      refine TU.done (by decide +kernel) ?_
      refine T.exit ?_
      refine T.region ?_
      refine TL.cons rfl (V1.t (V1.add rfl rfl (wrap_i64 _ (by omega) (by omega))) ?_)
      refine TL.cons rfl (V1.t (V1.move' (by (conv => lhs; whnf) <;> rfl)) ?_)
      refine TL.nil ?_
      exact ⟨i + 1, _, _, (by simp only; omega), (.cons rfl .nil), (.cons rfl (.cons rfl (.cons rfl .nil))), (by repeat (first | exact Take.nil | apply Take.one (by repeat (first | exact Pick.here | apply Pick.there | apply Pick.far)) | apply Take.seg (by repeat (first | exact PickS.last | exact PickS.one | exact PickS.here | exact PickS.nil | apply PickS.there | apply PickS.far)) | exact Take.last (by repeat (first | exact PickS.last | exact PickS.one | exact PickS.here | exact PickS.nil | apply PickS.there | apply PickS.far)))), ⟨rfl, by omega⟩⟩
    ·
      obtain ⟨j, rfl⟩ : ∃ j, i = 16 + j := ⟨i - 16, by omega⟩
      have hWi := W_next (l := l) (j := j) (by omega)
      rw [← hWW] at hWi
      refine TL.nil ?_
      refine T.cond_f rfl ?_
      refine T.skip ?_
      refine T.seq ?_
      refine T.drawDet' mixed (by decide +kernel) ?_
      refine Det.cons 0 (ins := [(5, _)]) (.old (by (conv => lhs; whnf) <;> rfl) (by decide +kernel) .nil) (fun e_ => .inl ⟨rfl, V1.t (V1.move' (by (conv => lhs; whnf) <;> rfl)) ⟨rfl, rfl⟩⟩) ?_
      refine Det.cons 1 (ins := [(62, _)]) (.new 0 0 (by decide +kernel) rfl rfl .nil) (fun e_ => .inl ⟨rfl, V1.t (V1.sub rfl rfl (c := ((j + 1 : Nat) : Int)) (by rw [wrap_i64 _ (by omega) (by omega)]; omega)) ⟨rfl, rfl⟩⟩) ?_
      refine Det.cons 2 (ins := [(4, _), (63, _)]) (.old (by (conv => lhs; whnf) <;> rfl) (by decide +kernel) (.new 1 0 (by decide +kernel) rfl rfl .nil)) (fun e_ => .inl ⟨rfl, V1.t (V1.indexAddrA ty_89 sz_77 rfl rfl (by omega) (by omega)) ⟨rfl, rfl⟩⟩) ?_
      refine Det.cons 3 (ins := [(64, _)]) (.new 2 0 (by decide +kernel) rfl rfl .nil) (fun e_ => .inl ⟨rfl, V1.t (V1.load1 one_77 rfl (show Rd _ _ ⟨b4, 0 + (j + 1) * 1, none⟩ (w32 (WW.getD (j + 1) 0)) from by rw [Nat.mul_one]; exact Rd.at (by repeat (first | exact Find.here | assumption | apply Find.there | apply Find.far)) (fill_get 0 (by omega) (by omega)))) ⟨rfl, rfl⟩⟩) ?_
      refine Det.cons 4 (ins := [(5, _)]) (.old (by (conv => lhs; whnf) <;> rfl) (by decide +kernel) .nil) (fun e_ => .inl ⟨rfl, V1.t (V1.move' (by (conv => lhs; whnf) <;> rfl)) ⟨rfl, rfl⟩⟩) ?_
      refine Det.cons 5 (ins := [(66, _)]) (.new 4 0 (by decide +kernel) rfl rfl .nil) (fun e_ => .inl ⟨rfl, V1.t (V1.sub rfl rfl (c := ((j + 14 : Nat) : Int)) (by rw [wrap_i64 _ (by omega) (by omega)]; omega)) ⟨rfl, rfl⟩⟩) ?_
      refine Det.cons 6 (ins := [(4, _), (67, _)]) (.old (by (conv => lhs; whnf) <;> rfl) (by decide +kernel) (.new 5 0 (by decide +kernel) rfl rfl .nil)) (fun e_ => .inl ⟨rfl, V1.t (V1.indexAddrA ty_89 sz_77 rfl rfl (by omega) (by omega)) ⟨rfl, rfl⟩⟩) ?_
      refine Det.cons 7 (ins := [(68, _)]) (.new 6 0 (by decide +kernel) rfl rfl .nil) (fun e_ => .inl ⟨rfl, V1.t (V1.load1 one_77 rfl (show Rd _ _ ⟨b4, 0 + (j + 14) * 1, none⟩ (w32 (WW.getD (j + 14) 0)) from by rw [Nat.mul_one]; exact Rd.at (by repeat (first | exact Find.here | assumption | apply Find.there | apply Find.far)) (fill_get 0 (by omega) (by omega)))) ⟨rfl, rfl⟩⟩) ?_
      refine Det.cons 8 (ins := [(65, _)]) (.new 3 4 (by decide +kernel) rfl rfl .nil) (fun e_ => .inl ⟨rfl, V1.t (V1.assign' (by (conv => lhs; whnf) <;> rfl)) ⟨rfl, rfl⟩⟩) ?_
      refine Det.cons 9 (ins := [(69, _)]) (.new 7 1 (by decide +kernel) rfl rfl .nil) (fun e_ => .inl ⟨rfl, V1.t (V1.assign' (by (conv => lhs; whnf) <;> rfl)) ⟨rfl, rfl⟩⟩) ?_
      refine Det.nil 10 (l := [(0, _), (1, _), (4, _), (5, _), (6, _), (7, _), (22, _)]) (.old (by (conv => lhs; whnf) <;> rfl) (by decide +kernel) (.old (by (conv => lhs; whnf) <;> rfl) (by decide +kernel) (.old (by (conv => lhs; whnf) <;> rfl) (by decide +kernel) (.old (by (conv => lhs; whnf) <;> rfl) (by decide +kernel) (.new 8 1 (by decide +kernel) rfl rfl (.new 9 0 (by decide +kernel) rfl rfl (.old (by (conv => lhs; whnf) <;> rfl) (by decide +kernel) .nil))))))) (fun e_ => ?_)
      refine T.drawTail 28 mixed (by decide +kernel) (by rfl) (by decide +kernel) rfl ?_
      refine Det.cons 0 (ins := [(5, _)]) (.old (by (conv => lhs; whnf) <;> rfl) (by decide +kernel) .nil) (fun e_ => .inl ⟨rfl, V1.t (V1.move' (by (conv => lhs; whnf) <;> rfl)) ⟨rfl, rfl⟩⟩) ?_
      refine Det.cons 1 (ins := [(5, _)]) (.old (by (conv => lhs; whnf) <;> rfl) (by decide +kernel) .nil) (fun e_ => .inl ⟨rfl, V1.t (V1.move' (by (conv => lhs; whnf) <;> rfl)) ⟨rfl, rfl⟩⟩) ?_
      refine Det.cons 2 (ins := [(71, _)]) (.new 1 0 (by decide +kernel) rfl rfl .nil) (fun e_ => .inl ⟨rfl, V1.t (V1.sub rfl rfl (c := ((j : Nat) : Int)) (by rw [wrap_i64 _ (by omega) (by omega)]; omega)) ⟨rfl, rfl⟩⟩) ?_
      refine Det.cons 3 (ins := [(4, _), (72, _)]) (.old (by (conv => lhs; whnf) <;> rfl) (by decide +kernel) (.new 2 0 (by decide +kernel) rfl rfl .nil)) (fun e_ => .inl ⟨rfl, V1.t (V1.indexAddrA ty_89 sz_77 rfl rfl (by omega) (by omega)) ⟨rfl, rfl⟩⟩) ?_
      refine Det.cons 4 (ins := [(73, _)]) (.new 3 0 (by decide +kernel) rfl rfl .nil) (fun e_ => .inl ⟨rfl, V1.t (V1.load1 one_77 rfl (show Rd _ _ ⟨b4, 0 + (j) * 1, none⟩ (w32 (WW.getD (j) 0)) from by rw [Nat.mul_one]; exact Rd.at (by repeat (first | exact Find.here | assumption | apply Find.there | apply Find.far)) (fill_get 0 (by omega) (by omega)))) ⟨rfl, rfl⟩⟩) ?_
      refine Det.cons 5 (ins := [(5, _)]) (.old (by (conv => lhs; whnf) <;> rfl) (by decide +kernel) .nil) (fun e_ => .inl ⟨rfl, V1.t (V1.move' (by (conv => lhs; whnf) <;> rfl)) ⟨rfl, rfl⟩⟩) ?_
      refine Det.cons 6 (ins := [(75, _)]) (.new 5 0 (by decide +kernel) rfl rfl .nil) (fun e_ => .inl ⟨rfl, V1.t (V1.sub rfl rfl (c := ((j + 9 : Nat) : Int)) (by rw [wrap_i64 _ (by omega) (by omega)]; omega)) ⟨rfl, rfl⟩⟩) ?_
      refine Det.cons 7 (ins := [(4, _), (76, _)]) (.old (by (conv => lhs; whnf) <;> rfl) (by decide +kernel) (.new 6 0 (by decide +kernel) rfl rfl .nil)) (fun e_ => .inl ⟨rfl, V1.t (V1.indexAddrA ty_89 sz_77 rfl rfl (by omega) (by omega)) ⟨rfl, rfl⟩⟩) ?_
      refine Det.cons 8 (ins := [(77, _)]) (.new 7 0 (by decide +kernel) rfl rfl .nil) (fun e_ => .inl ⟨rfl, V1.t (V1.load1 one_77 rfl (show Rd _ _ ⟨b4, 0 + (j + 9) * 1, none⟩ (w32 (WW.getD (j + 9) 0)) from by rw [Nat.mul_one]; exact Rd.at (by repeat (first | exact Find.here | assumption | apply Find.there | apply Find.far)) (fill_get 0 (by omega) (by omega)))) ⟨rfl, rfl⟩⟩) ?_
      refine Det.cons 9 (ins := [(74, _), (78, _)]) (.new 4 4 (by decide +kernel) rfl rfl (.new 8 0 (by decide +kernel) rfl rfl .nil)) (fun e_ => .inl ⟨rfl, V1.t (V1.addW u32U rfl rfl) ⟨rfl, rfl⟩⟩) ?_
      refine Det.cons 10 (ins := [(6, _)]) (.old (by (conv => lhs; whnf) <;> rfl) (by decide +kernel) .nil) (fun e_ => .inl ⟨rfl, V1.t (V1.move' (by (conv => lhs; whnf) <;> rfl)) ⟨rfl, rfl⟩⟩) ?_
      refine Det.cons 11 (ins := [(80, _)]) (v := w32 (rotr (WW.getD (j + 1) 0) 7)) (.new 10 0 (by decide +kernel) rfl rfl .nil) (fun e_ => .inl ⟨rfl, ?_⟩) ?_
      · refine T1.call0 has_37 rfl (fun w hs => RotL32_any _ _ w) (fun v hv => ?_)
        rw [RL32_25] at hv
        subst hv
        exact ⟨rfl, rfl⟩
      refine Det.cons 12 (ins := [(6, _)]) (.old (by (conv => lhs; whnf) <;> rfl) (by decide +kernel) .nil) (fun e_ => .inl ⟨rfl, V1.t (V1.move' (by (conv => lhs; whnf) <;> rfl)) ⟨rfl, rfl⟩⟩) ?_
      refine Det.cons 13 (ins := [(82, _)]) (v := w32 (rotr (WW.getD (j + 1) 0) 18)) (.new 12 0 (by decide +kernel) rfl rfl .nil) (fun e_ => .inl ⟨rfl, ?_⟩) ?_
      · refine T1.call0 has_37 rfl (fun w hs => RotL32_any _ _ w) (fun v hv => ?_)
        rw [RL32_14] at hv
        subst hv
        exact ⟨rfl, rfl⟩
      refine Det.cons 14 (ins := [(81, _), (83, _)]) (.new 11 2 (by decide +kernel) rfl rfl (.new 13 0 (by decide +kernel) rfl rfl .nil)) (fun e_ => .inl ⟨rfl, V1.t (V1.xorW u32U rfl rfl) ⟨rfl, rfl⟩⟩) ?_
      refine Det.cons 15 (ins := [(6, _)]) (.old (by (conv => lhs; whnf) <;> rfl) (by decide +kernel) .nil) (fun e_ => .inl ⟨rfl, V1.t (V1.move' (by (conv => lhs; whnf) <;> rfl)) ⟨rfl, rfl⟩⟩) ?_
      refine Det.cons 16 (ins := [(85, _)]) (.new 15 0 (by decide +kernel) rfl rfl .nil) (fun e_ => .inl ⟨rfl, V1.t (V1.shrW (k := 3) u32U rfl rfl) ⟨rfl, rfl⟩⟩) ?_
      refine Det.cons 17 (ins := [(84, _), (86, _)]) (.new 14 2 (by decide +kernel) rfl rfl (.new 16 0 (by decide +kernel) rfl rfl .nil)) (fun e_ => .inl ⟨rfl, V1.t (V1.xorW u32U rfl rfl) ⟨rfl, rfl⟩⟩) ?_
      refine Det.cons 18 (ins := [(79, _), (87, _)]) (.new 9 8 (by decide +kernel) rfl rfl (.new 17 0 (by decide +kernel) rfl rfl .nil)) (fun e_ => .inl ⟨rfl, V1.t (V1.addW u32U rfl rfl) ⟨rfl, rfl⟩⟩) ?_
      refine Det.cons 19 (ins := [(7, _)]) (.old (by (conv => lhs; whnf) <;> rfl) (by decide +kernel) .nil) (fun e_ => .inl ⟨rfl, V1.t (V1.move' (by (conv => lhs; whnf) <;> rfl)) ⟨rfl, rfl⟩⟩) ?_
      refine Det.cons 20 (ins := [(89, _)]) (v := w32 (rotr (WW.getD (j + 14) 0) 17)) (.new 19 0 (by decide +kernel) rfl rfl .nil) (fun e_ => .inl ⟨rfl, ?_⟩) ?_
      · refine T1.call0 has_37 rfl (fun w hs => RotL32_any _ _ w) (fun v hv => ?_)
        rw [RL32_15] at hv
        subst hv
        exact ⟨rfl, rfl⟩
      refine Det.cons 21 (ins := [(7, _)]) (.old (by (conv => lhs; whnf) <;> rfl) (by decide +kernel) .nil) (fun e_ => .inl ⟨rfl, V1.t (V1.move' (by (conv => lhs; whnf) <;> rfl)) ⟨rfl, rfl⟩⟩) ?_
      refine Det.cons 22 (ins := [(91, _)]) (v := w32 (rotr (WW.getD (j + 14) 0) 19)) (.new 21 0 (by decide +kernel) rfl rfl .nil) (fun e_ => .inl ⟨rfl, ?_⟩) ?_
      · refine T1.call0 has_37 rfl (fun w hs => RotL32_any _ _ w) (fun v hv => ?_)
        rw [RL32_13] at hv
        subst hv
        exact ⟨rfl, rfl⟩
      refine Det.cons 23 (ins := [(90, _), (92, _)]) (.new 20 2 (by decide +kernel) rfl rfl (.new 22 0 (by decide +kernel) rfl rfl .nil)) (fun e_ => .inl ⟨rfl, V1.t (V1.xorW u32U rfl rfl) ⟨rfl, rfl⟩⟩) ?_
      refine Det.cons 24 (ins := [(7, _)]) (.old (by (conv => lhs; whnf) <;> rfl) (by decide +kernel) .nil) (fun e_ => .inl ⟨rfl, V1.t (V1.move' (by (conv => lhs; whnf) <;> rfl)) ⟨rfl, rfl⟩⟩) ?_
      refine Det.cons 25 (ins := [(94, _)]) (.new 24 0 (by decide +kernel) rfl rfl .nil) (fun e_ => .inl ⟨rfl, V1.t (V1.shrW (k := 10) u32U rfl rfl) ⟨rfl, rfl⟩⟩) ?_
      refine Det.cons 26 (ins := [(93, _), (95, _)]) (.new 23 2 (by decide +kernel) rfl rfl (.new 25 0 (by decide +kernel) rfl rfl .nil)) (fun e_ => .inl ⟨rfl, V1.t (V1.xorW u32U rfl rfl) ⟨rfl, rfl⟩⟩) ?_
      refine Det.cons 27 (ins := [(88, _), (96, _)]) (.new 18 8 (by decide +kernel) rfl rfl (.new 26 0 (by decide +kernel) rfl rfl .nil)) (fun e_ => .inl ⟨rfl, V1.t (V1.addW u32U rfl rfl) ⟨rfl, rfl⟩⟩) ?_
      refine Det.nil 28 (l := [(0, _), (1, _), (4, _), (22, _), (70, _), (97, _)]) (.old (by (conv => lhs; whnf) <;> rfl) (by decide +kernel) (.old (by (conv => lhs; whnf) <;> rfl) (by decide +kernel) (.old (by (conv => lhs; whnf) <;> rfl) (by decide +kernel) (.old (by (conv => lhs; whnf) <;> rfl) (by decide +kernel) (.new 0 27 (by decide +kernel) rfl rfl (.new 27 0 (by decide +kernel) rfl rfl .nil)))))) (fun e_ => ?_)
      refine (show TU _ _ _ 2 _ _ _ from ?_)
      refine TU.one 28 (by decide +kernel) rfl rfl (V1.t (V1.indexAddrA ty_89 sz_77 rfl rfl (by omega) (by omega)) ?_)
      refine TU.one 29 (by decide +kernel) rfl rfl (T1.storeE (o := 0 + (16 + j) * 1) (cells := (WW.take (16 + j)).map w32 ++ List.replicate (64 - (16 + j)) (.int .u32 0)) (cells' := (WW.take (16 + j + 1)).map w32 ++ List.replicate (64 - (16 + j + 1)) (.int .u32 0)) rfl (congrArg w32 hWi.symm) sz_77 rfl (by rw [show 0 + (16 + j) * 1 - 0 = 16 + j from by omega]; exact fill_set 0 hWl (by omega)) (by repeat (first | exact Sub.one | apply Sub.there | apply Sub.far)) (Nat.zero_le _) (by rw [List.length_append, List.length_map, List.length_take, List.length_replicate]; omega) ?_)
      refine TU.done (by decide +kernel) ?_
      refine T.region ?_
      refine TL.cons rfl (V1.t (V1.add rfl rfl (wrap_i64 _ (by omega) (by omega))) ?_)
      refine TL.cons rfl (V1.t (V1.move' (by (conv => lhs; whnf) <;> rfl)) ?_)
      refine TL.nil ?_
      exact ⟨16 + j + 1, _, _, (by simp only; omega), (.cons rfl .nil), (.cons rfl (.cons rfl (.cons rfl .nil))), (by repeat (first | exact Take.nil | apply Take.one (by repeat (first | exact Pick.here | apply Pick.there | apply Pick.far)) | apply Take.seg (by repeat (first | exact PickS.last | exact PickS.one | exact PickS.here | exact PickS.nil | apply PickS.there | apply PickS.far)) | exact Take.last (by repeat (first | exact PickS.last | exact PickS.one | exact PickS.here | exact PickS.nil | apply PickS.there | apply PickS.far)))), ⟨rfl, by omega⟩⟩
  ·
    obtain rfl : i = 64 := by omega
    refine TL.nil ?_
    refine T.seq ?_
    refine T.cond_f rfl ?_
    refine T.exit ?_
    refine T.seq ?_
    refine T.region ?_
    refine TL.cons rfl (T1.call0 has_38 rfl (fun w hs => table_any w) (fun v hv => ?_))
    subst hv
    refine TL.cons rfl (T1.allocN 80 zr_91 rfl (fun b8 => ?_))
    refine TL.cons rfl (T1.storeN rfl rfl sz_91 (by intro u hu; obtain ⟨k, _, rfl⟩ := List.mem_map.1 hu; rfl) (by repeat (first | exact Sub.one | apply Sub.there | apply Sub.far)) (by kernel_rfl) (by kernel_rfl) ?_)
    refine TL.nil ?_
    refine T.seq ?_
    refine T.drawDet' mixed (by decide +kernel) ?_
    refine Det.cons 0 (ins := [(0, _)]) (.old (by (conv => lhs; whnf) <;> rfl) (by decide +kernel) .nil) (fun e_ => .inl ⟨rfl, V1.t (V1.move' (by (conv => lhs; whnf) <;> rfl)) ⟨rfl, rfl⟩⟩) ?_
    refine Det.cons 1 (ins := [(101, _)]) (.new 0 0 (by decide +kernel) rfl rfl .nil) (fun e_ => .inl ⟨rfl, V1.t (V1.nilCheck rfl) ⟨rfl, rfl⟩⟩) ?_
    refine Det.cons 2 (ins := [(102, _)]) (.new 1 0 (by decide +kernel) rfl rfl .nil) (fun e_ => .inl ⟨rfl, V1.t (V1.fieldAddr fl_82_1 rfl) ⟨rfl, rfl⟩⟩) ?_
    refine Det.cons 3 (ins := [(103, _)]) (.new 2 0 (by decide +kernel) rfl rfl .nil) (fun e_ => .inl ⟨rfl, V1.t (V1.indexAddrA ty_78 sz_77 rfl rfl (by decide) (by decide)) ⟨rfl, rfl⟩⟩) ?_
    refine Det.cons 4 (ins := [(104, _)]) (.new 3 0 (by decide +kernel) rfl rfl .nil) (fun e_ => .inl ⟨rfl, V1.t (V1.load1 one_77 rfl (.own (by repeat (first | exact Find.here | assumption | apply Find.there | apply Find.far)) (by rfl))) ⟨rfl, rfl⟩⟩) ?_
    refine Det.cons 5 (ins := [(0, _)]) (.old (by (conv => lhs; whnf) <;> rfl) (by decide +kernel) .nil) (fun e_ => .inl ⟨rfl, V1.t (V1.move' (by (conv => lhs; whnf) <;> rfl)) ⟨rfl, rfl⟩⟩) ?_
    refine Det.cons 6 (ins := [(106, _)]) (.new 5 0 (by decide +kernel) rfl rfl .nil) (fun e_ => .inl ⟨rfl, V1.t (V1.nilCheck rfl) ⟨rfl, rfl⟩⟩) ?_
    refine Det.cons 7 (ins := [(107, _)]) (.new 6 0 (by decide +kernel) rfl rfl .nil) (fun e_ => .inl ⟨rfl, V1.t (V1.fieldAddr fl_82_1 rfl) ⟨rfl, rfl⟩⟩) ?_
    refine Det.cons 8 (ins := [(108, _)]) (.new 7 0 (by decide +kernel) rfl rfl .nil) (fun e_ => .inl ⟨rfl, V1.t (V1.indexAddrA ty_78 sz_77 rfl rfl (by decide) (by decide)) ⟨rfl, rfl⟩⟩) ?_
    refine Det.cons 9 (ins := [(109, _)]) (.new 8 0 (by decide +kernel) rfl rfl .nil) (fun e_ => .inl ⟨rfl, V1.t (V1.load1 one_77 rfl (.own (by repeat (first | exact Find.here | assumption | apply Find.there | apply Find.far)) (by rfl))) ⟨rfl, rfl⟩⟩) ?_
    refine Det.cons 10 (ins := [(0, _)]) (.old (by (conv => lhs; whnf) <;> rfl) (by decide +kernel) .nil) (fun e_ => .inl ⟨rfl, V1.t (V1.move' (by (conv => lhs; whnf) <;> rfl)) ⟨rfl, rfl⟩⟩) ?_
    refine Det.cons 11 (ins := [(111, _)]) (.new 10 0 (by decide +kernel) rfl rfl .nil) (fun e_ => .inl ⟨rfl, V1.t (V1.nilCheck rfl) ⟨rfl, rfl⟩⟩) ?_
    refine Det.cons 12 (ins := [(112, _)]) (.new 11 0 (by decide +kernel) rfl rfl .nil) (fun e_ => .inl ⟨rfl, V1.t (V1.fieldAddr fl_82_1 rfl) ⟨rfl, rfl⟩⟩) ?_
    refine Det.cons 13 (ins := [(113, _)]) (.new 12 0 (by decide +kernel) rfl rfl .nil) (fun e_ => .inl ⟨rfl, V1.t (V1.indexAddrA ty_78 sz_77 rfl rfl (by decide) (by decide)) ⟨rfl, rfl⟩⟩) ?_
    refine Det.cons 14 (ins := [(114, _)]) (.new 13 0 (by decide +kernel) rfl rfl .nil) (fun e_ => .inl ⟨rfl, V1.t (V1.load1 one_77 rfl (.own (by repeat (first | exact Find.here | assumption | apply Find.there | apply Find.far)) (by rfl))) ⟨rfl, rfl⟩⟩) ?_
    refine Det.cons 15 (ins := [(0, _)]) (.old (by (conv => lhs; whnf) <;> rfl) (by decide +kernel) .nil) (fun e_ => .inl ⟨rfl, V1.t (V1.move' (by (conv => lhs; whnf) <;> rfl)) ⟨rfl, rfl⟩⟩) ?_
    refine Det.cons 16 (ins := [(116, _)]) (.new 15 0 (by decide +kernel) rfl rfl .nil) (fun e_ => .inl ⟨rfl, V1.t (V1.nilCheck rfl) ⟨rfl, rfl⟩⟩) ?_
    refine Det.cons 17 (ins := [(117, _)]) (.new 16 0 (by decide +kernel) rfl rfl .nil) (fun e_ => .inl ⟨rfl, V1.t (V1.fieldAddr fl_82_1 rfl) ⟨rfl, rfl⟩⟩) ?_
    refine Det.cons 18 (ins := [(118, _)]) (.new 17 0 (by decide +kernel) rfl rfl .nil) (fun e_ => .inl ⟨rfl, V1.t (V1.indexAddrA ty_78 sz_77 rfl rfl (by decide) (by decide)) ⟨rfl, rfl⟩⟩) ?_
    refine Det.cons 19 (ins := [(119, _)]) (.new 18 0 (by decide +kernel) rfl rfl .nil) (fun e_ => .inl ⟨rfl, V1.t (V1.load1 one_77 rfl (.own (by repeat (first | exact Find.here | assumption | apply Find.there | apply Find.far)) (by rfl))) ⟨rfl, rfl⟩⟩) ?_
    refine Det.cons 20 (ins := [(0, _)]) (.old (by (conv => lhs; whnf) <;> rfl) (by decide +kernel) .nil) (fun e_ => .inl ⟨rfl, V1.t (V1.move' (by (conv => lhs; whnf) <;> rfl)) ⟨rfl, rfl⟩⟩) ?_
    refine Det.cons 21 (ins := [(121, _)]) (.new 20 0 (by decide +kernel) rfl rfl .nil) (fun e_ => .inl ⟨rfl, V1.t (V1.nilCheck rfl) ⟨rfl, rfl⟩⟩) ?_
    refine Det.cons 22 (ins := [(122, _)]) (.new 21 0 (by decide +kernel) rfl rfl .nil) (fun e_ => .inl ⟨rfl, V1.t (V1.fieldAddr fl_82_1 rfl) ⟨rfl, rfl⟩⟩) ?_
    refine Det.cons 23 (ins := [(123, _)]) (.new 22 0 (by decide +kernel) rfl rfl .nil) (fun e_ => .inl ⟨rfl, V1.t (V1.indexAddrA ty_78 sz_77 rfl rfl (by decide) (by decide)) ⟨rfl, rfl⟩⟩) ?_
    refine Det.cons 24 (ins := [(124, _)]) (.new 23 0 (by decide +kernel) rfl rfl .nil) (fun e_ => .inl ⟨rfl, V1.t (V1.load1 one_77 rfl (.own (by repeat (first | exact Find.here | assumption | apply Find.there | apply Find.far)) (by rfl))) ⟨rfl, rfl⟩⟩) ?_
    refine Det.cons 25 (ins := [(0, _)]) (.old (by (conv => lhs; whnf) <;> rfl) (by decide +kernel) .nil) (fun e_ => .inl ⟨rfl, V1.t (V1.move' (by (conv => lhs; whnf) <;> rfl)) ⟨rfl, rfl⟩⟩) ?_
    refine Det.cons 26 (ins := [(126, _)]) (.new 25 0 (by decide +kernel) rfl rfl .nil) (fun e_ => .inl ⟨rfl, V1.t (V1.nilCheck rfl) ⟨rfl, rfl⟩⟩) ?_
    refine Det.cons 27 (ins := [(127, _)]) (.new 26 0 (by decide +kernel) rfl rfl .nil) (fun e_ => .inl ⟨rfl, V1.t (V1.fieldAddr fl_82_1 rfl) ⟨rfl, rfl⟩⟩) ?_
    refine Det.cons 28 (ins := [(128, _)]) (.new 27 0 (by decide +kernel) rfl rfl .nil) (fun e_ => .inl ⟨rfl, V1.t (V1.indexAddrA ty_78 sz_77 rfl rfl (by decide) (by decide)) ⟨rfl, rfl⟩⟩) ?_
    refine Det.cons 29 (ins := [(129, _)]) (.new 28 0 (by decide +kernel) rfl rfl .nil) (fun e_ => .inl ⟨rfl, V1.t (V1.load1 one_77 rfl (.own (by repeat (first | exact Find.here | assumption | apply Find.there | apply Find.far)) (by rfl))) ⟨rfl, rfl⟩⟩) ?_
    refine Det.cons 30 (ins := [(0, _)]) (.old (by (conv => lhs; whnf) <;> rfl) (by decide +kernel) .nil) (fun e_ => .inl ⟨rfl, V1.t (V1.move' (by (conv => lhs; whnf) <;> rfl)) ⟨rfl, rfl⟩⟩) ?_
    refine Det.cons 31 (ins := [(131, _)]) (.new 30 0 (by decide +kernel) rfl rfl .nil) (fun e_ => .inl ⟨rfl, V1.t (V1.nilCheck rfl) ⟨rfl, rfl⟩⟩) ?_
    refine Det.cons 32 (ins := [(132, _)]) (.new 31 0 (by decide +kernel) rfl rfl .nil) (fun e_ => .inl ⟨rfl, V1.t (V1.fieldAddr fl_82_1 rfl) ⟨rfl, rfl⟩⟩) ?_
    refine Det.cons 33 (ins := [(133, _)]) (.new 32 0 (by decide +kernel) rfl rfl .nil) (fun e_ => .inl ⟨rfl, V1.t (V1.indexAddrA ty_78 sz_77 rfl rfl (by decide) (by decide)) ⟨rfl, rfl⟩⟩) ?_
    refine Det.cons 34 (ins := [(134, _)]) (.new 33 0 (by decide +kernel) rfl rfl .nil) (fun e_ => .inl ⟨rfl, V1.t (V1.load1 one_77 rfl (.own (by repeat (first | exact Find.here | assumption | apply Find.there | apply Find.far)) (by rfl))) ⟨rfl, rfl⟩⟩) ?_
    refine Det.cons 35 (ins := [(0, _)]) (.old (by (conv => lhs; whnf) <;> rfl) (by decide +kernel) .nil) (fun e_ => .inl ⟨rfl, V1.t (V1.move' (by (conv => lhs; whnf) <;> rfl)) ⟨rfl, rfl⟩⟩) ?_
    refine Det.cons 36 (ins := [(136, _)]) (.new 35 0 (by decide +kernel) rfl rfl .nil) (fun e_ => .inl ⟨rfl, V1.t (V1.nilCheck rfl) ⟨rfl, rfl⟩⟩) ?_
    refine Det.cons 37 (ins := [(137, _)]) (.new 36 0 (by decide +kernel) rfl rfl .nil) (fun e_ => .inl ⟨rfl, V1.t (V1.fieldAddr fl_82_1 rfl) ⟨rfl, rfl⟩⟩) ?_
    refine Det.cons 38 (ins := [(138, _)]) (.new 37 0 (by decide +kernel) rfl rfl .nil) (fun e_ => .inl ⟨rfl, V1.t (V1.indexAddrA ty_78 sz_77 rfl rfl (by decide) (by decide)) ⟨rfl, rfl⟩⟩) ?_
    refine Det.cons 39 (ins := [(139, _)]) (.new 38 0 (by decide +kernel) rfl rfl .nil) (fun e_ => .inl ⟨rfl, V1.t (V1.load1 one_77 rfl (.own (by repeat (first | exact Find.here | assumption | apply Find.there | apply Find.far)) (by rfl))) ⟨rfl, rfl⟩⟩) ?_
    refine Det.cons 40 (ins := [(105, _)]) (.new 4 35 (by decide +kernel) rfl rfl .nil) (fun e_ => .inl ⟨rfl, V1.t (V1.assign' (by (conv => lhs; whnf) <;> rfl)) ⟨rfl, rfl⟩⟩) ?_
    refine Det.cons 41 (ins := [(110, _)]) (.new 9 31 (by decide +kernel) rfl rfl .nil) (fun e_ => .inl ⟨rfl, V1.t (V1.assign' (by (conv => lhs; whnf) <;> rfl)) ⟨rfl, rfl⟩⟩) ?_
    refine Det.cons 42 (ins := [(115, _)]) (.new 14 27 (by decide +kernel) rfl rfl .nil) (fun e_ => .inl ⟨rfl, V1.t (V1.assign' (by (conv => lhs; whnf) <;> rfl)) ⟨rfl, rfl⟩⟩) ?_
    refine Det.cons 43 (ins := [(120, _)]) (.new 19 23 (by decide +kernel) rfl rfl .nil) (fun e_ => .inl ⟨rfl, V1.t (V1.assign' (by (conv => lhs; whnf) <;> rfl)) ⟨rfl, rfl⟩⟩) ?_
    refine Det.cons 44 (ins := [(125, _)]) (.new 24 19 (by decide +kernel) rfl rfl .nil) (fun e_ => .inl ⟨rfl, V1.t (V1.assign' (by (conv => lhs; whnf) <;> rfl)) ⟨rfl, rfl⟩⟩) ?_
    refine Det.cons 45 (ins := [(130, _)]) (.new 29 15 (by decide +kernel) rfl rfl .nil) (fun e_ => .inl ⟨rfl, V1.t (V1.assign' (by (conv => lhs; whnf) <;> rfl)) ⟨rfl, rfl⟩⟩) ?_
    refine Det.cons 46 (ins := [(135, _)]) (.new 34 11 (by decide +kernel) rfl rfl .nil) (fun e_ => .inl ⟨rfl, V1.t (V1.assign' (by (conv => lhs; whnf) <;> rfl)) ⟨rfl, rfl⟩⟩) ?_
    refine Det.cons 47 (ins := [(140, _)]) (.new 39 7 (by decide +kernel) rfl rfl .nil) (fun e_ => .inl ⟨rfl, V1.t (V1.assign' (by (conv => lhs; whnf) <;> rfl)) ⟨rfl, rfl⟩⟩) ?_
    refine Det.nil 48 (l := [(0, _), (4, _), (8, _), (9, _), (10, _), (11, _), (12, _), (13, _), (14, _), (15, _), (16, _)]) (.old (by (conv => lhs; whnf) <;> rfl) (by decide +kernel) (.old (by (conv => lhs; whnf) <;> rfl) (by decide +kernel) (.old (by (conv => lhs; whnf) <;> rfl) (by decide +kernel) (.new 40 7 (by decide +kernel) rfl rfl (.new 41 6 (by decide +kernel) rfl rfl (.new 42 5 (by decide +kernel) rfl rfl (.new 43 4 (by decide +kernel) rfl rfl (.new 44 3 (by decide +kernel) rfl rfl (.new 45 2 (by decide +kernel) rfl rfl (.new 46 1 (by decide +kernel) rfl rfl (.new 47 0 (by decide +kernel) rfl rfl .nil))))))))))) (fun e_ => ?_)
    refine T.seq ?_
    refine T.seq ?_
    refine T.region ?_
    refine TL.cons rfl (V1.t (V1.move' (by (conv => lhs; whnf) <;> rfl)) ?_)
    refine TL.nil ?_
    refine T.block ?_
    refine T.loopL (σ := Nat) (l0 := [(0, _), (4, _), (8, _)]) (fun x => [(141, .int .i64 (x : Nat)), (9, w32 (rnds T256 WW st x).a), (10, w32 (rnds T256 WW st x).b), (11, w32 (rnds T256 WW st x).c), (12, w32 (rnds T256 WW st x).d), (13, w32 (rnds T256 WW st x).e), (14, w32 (rnds T256 WW st x).f), (15, w32 (rnds T256 WW st x).g), (16, w32 (rnds T256 WW st x).h)]) (fun x L => L = ⟨b8, 0, tableV, 80⟩ :: ⟨b4, 0, (WW.take 64).map w32 ++ List.replicate (64 - 64) (.int .u32 0), 64⟩ :: ⟨bh, 0, [s, w64 n, w32 st.a, w32 st.b, w32 st.c, w32 st.d, w32 st.e, w32 st.f, w32 st.g, w32 st.h], 10⟩ :: ⟨bp, op, l.map byteV, size⟩ :: G ∧ x ≤ 64) (fun x => 64 - x) 0 (.cons rfl (.cons rfl (.cons rfl (.cons rfl (.cons rfl (.cons rfl (.cons rfl (.cons rfl (.cons rfl .nil))))))))) (.cons (by (conv => lhs; whnf) <;> rfl) (.cons (by (conv => lhs; whnf) <;> rfl) (.cons (by (conv => lhs; whnf) <;> rfl) .nil))) (by repeat (first | exact Take.nil | apply Take.one (by repeat (first | exact Pick.here | apply Pick.there | apply Pick.far)) | apply Take.seg (by repeat (first | exact PickS.last | exact PickS.one | exact PickS.here | exact PickS.nil | apply PickS.there | apply PickS.far)) | exact Take.last (by repeat (first | exact PickS.last | exact PickS.one | exact PickS.here | exact PickS.nil | apply PickS.there | apply PickS.far)))) (⟨rfl, Nat.zero_le _⟩) ?_
    rintro i e_ L ⟨rfl, hi⟩
    refine T.seq ?_
    refine T.region ?_
    refine TL.cons rfl (T1.ltI_split rfl rfl (fun h12_0 => ?_) (fun h12_0 => ?_))
    ·
      refine TL.nil ?_
      refine T.seq ?_
      refine T.cond_t rfl ?_
      refine T.skip ?_
      refine T.seq ?_
      refine T.block ?_
      refine T.seq ?_
      refine T.region ?_
      refine TL.cons rfl (V1.t (V1.move' (by (conv => lhs; whnf) <;> rfl)) ?_)
      refine TL.cons rfl (V1.t (V1.assign' (by (conv => lhs; whnf) <;> rfl)) ?_)
      refine TL.nil ?_
      refine T.seq ?_
      refine T.drawDet' mixed (by decide +kernel) ?_
      refine Det.cons 0 (ins := [(16, _)]) (.old (by (conv => lhs; whnf) <;> rfl) (by decide +kernel) .nil) (fun e_ => .inl ⟨rfl, V1.t (V1.move' (by (conv => lhs; whnf) <;> rfl)) ⟨rfl, rfl⟩⟩) ?_
      refine Det.cons 1 (ins := [(13, _)]) (.old (by (conv => lhs; whnf) <;> rfl) (by decide +kernel) .nil) (fun e_ => .inl ⟨rfl, V1.t (V1.move' (by (conv => lhs; whnf) <;> rfl)) ⟨rfl, rfl⟩⟩) ?_
      refine Det.cons 2 (ins := [(145, _)]) (v := w32 (rotr ((rnds T256 WW st i).e) 6)) (.new 1 0 (by decide +kernel) rfl rfl .nil) (fun e_ => .inl ⟨rfl, ?_⟩) ?_
      · refine T1.call0 has_37 rfl (fun w hs => RotL32_any _ _ w) (fun v hv => ?_)
        rw [RL32_26] at hv
        subst hv
        exact ⟨rfl, rfl⟩
      refine Det.cons 3 (ins := [(13, _)]) (.old (by (conv => lhs; whnf) <;> rfl) (by decide +kernel) .nil) (fun e_ => .inl ⟨rfl, V1.t (V1.move' (by (conv => lhs; whnf) <;> rfl)) ⟨rfl, rfl⟩⟩) ?_
      refine Det.cons 4 (ins := [(147, _)]) (v := w32 (rotr ((rnds T256 WW st i).e) 11)) (.new 3 0 (by decide +kernel) rfl rfl .nil) (fun e_ => .inl ⟨rfl, ?_⟩) ?_
      · refine T1.call0 has_37 rfl (fun w hs => RotL32_any _ _ w) (fun v hv => ?_)
        rw [RL32_21] at hv
        subst hv
        exact ⟨rfl, rfl⟩
      refine Det.cons 5 (ins := [(146, _), (148, _)]) (.new 2 2 (by decide +kernel) rfl rfl (.new 4 0 (by decide +kernel) rfl rfl .nil)) (fun e_ => .inl ⟨rfl, V1.t (V1.xorW u32U rfl rfl) ⟨rfl, rfl⟩⟩) ?_
      refine Det.cons 6 (ins := [(13, _)]) (.old (by (conv => lhs; whnf) <;> rfl) (by decide +kernel) .nil) (fun e_ => .inl ⟨rfl, V1.t (V1.move' (by (conv => lhs; whnf) <;> rfl)) ⟨rfl, rfl⟩⟩) ?_
      refine Det.cons 7 (ins := [(150, _)]) (v := w32 (rotr ((rnds T256 WW st i).e) 25)) (.new 6 0 (by decide +kernel) rfl rfl .nil) (fun e_ => .inl ⟨rfl, ?_⟩) ?_
      · refine T1.call0 has_37 rfl (fun w hs => RotL32_any _ _ w) (fun v hv => ?_)
        rw [RL32_7] at hv
        subst hv
        exact ⟨rfl, rfl⟩
      refine Det.cons 8 (ins := [(149, _), (151, _)]) (.new 5 2 (by decide +kernel) rfl rfl (.new 7 0 (by decide +kernel) rfl rfl .nil)) (fun e_ => .inl ⟨rfl, V1.t (V1.xorW u32U rfl rfl) ⟨rfl, rfl⟩⟩) ?_
      refine Det.cons 9 (ins := [(144, _), (152, _)]) (.new 0 8 (by decide +kernel) rfl rfl (.new 8 0 (by decide +kernel) rfl rfl .nil)) (fun e_ => .inl ⟨rfl, V1.t (V1.addW u32U rfl rfl) ⟨rfl, rfl⟩⟩) ?_
      refine Det.cons 10 (ins := [(13, _)]) (.old (by (conv => lhs; whnf) <;> rfl) (by decide +kernel) .nil) (fun e_ => .inl ⟨rfl, V1.t (V1.move' (by (conv => lhs; whnf) <;> rfl)) ⟨rfl, rfl⟩⟩) ?_
      refine Det.cons 11 (ins := [(14, _)]) (.old (by (conv => lhs; whnf) <;> rfl) (by decide +kernel) .nil) (fun e_ => .inl ⟨rfl, V1.t (V1.move' (by (conv => lhs; whnf) <;> rfl)) ⟨rfl, rfl⟩⟩) ?_
      refine Det.cons 12 (ins := [(154, _), (155, _)]) (.new 10 1 (by decide +kernel) rfl rfl (.new 11 0 (by decide +kernel) rfl rfl .nil)) (fun e_ => .inl ⟨rfl, V1.t (V1.andW u32U rfl rfl) ⟨rfl, rfl⟩⟩) ?_
      refine Det.cons 13 (ins := [(13, _)]) (.old (by (conv => lhs; whnf) <;> rfl) (by decide +kernel) .nil) (fun e_ => .inl ⟨rfl, V1.t (V1.move' (by (conv => lhs; whnf) <;> rfl)) ⟨rfl, rfl⟩⟩) ?_
      refine Det.cons 14 (ins := [(157, _)]) (.new 13 0 (by decide +kernel) rfl rfl .nil) (fun e_ => .inl ⟨rfl, V1.t (V1.complW u32U rfl) ⟨rfl, rfl⟩⟩) ?_
      refine Det.cons 15 (ins := [(15, _)]) (.old (by (conv => lhs; whnf) <;> rfl) (by decide +kernel) .nil) (fun e_ => .inl ⟨rfl, V1.t (V1.move' (by (conv => lhs; whnf) <;> rfl)) ⟨rfl, rfl⟩⟩) ?_
      refine Det.cons 16 (ins := [(158, _), (159, _)]) (.new 14 1 (by decide +kernel) rfl rfl (.new 15 0 (by decide +kernel) rfl rfl .nil)) (fun e_ => .inl ⟨rfl, V1.t (V1.andW u32U rfl rfl) ⟨rfl, rfl⟩⟩) ?_
      refine Det.cons 17 (ins := [(156, _), (160, _)]) (.new 12 4 (by decide +kernel) rfl rfl (.new 16 0 (by decide +kernel) rfl rfl .nil)) (fun e_ => .inl ⟨rfl, V1.t (V1.xorW u32U rfl rfl) ⟨rfl, rfl⟩⟩) ?_
      refine Det.cons 18 (ins := [(153, _), (161, _)]) (.new 9 8 (by decide +kernel) rfl rfl (.new 17 0 (by decide +kernel) rfl rfl .nil)) (fun e_ => .inl ⟨rfl, V1.t (V1.addW u32U rfl rfl) ⟨rfl, rfl⟩⟩) ?_
      refine Det.cons 19 (ins := [(17, _)]) (.old (by (conv => lhs; whnf) <;> rfl) (by decide +kernel) .nil) (fun e_ => .inl ⟨rfl, V1.t (V1.move' (by (conv => lhs; whnf) <;> rfl)) ⟨rfl, rfl⟩⟩) ?_
      refine Det.cons 20 (ins := [(8, _), (163, _)]) (.old (by (conv => lhs; whnf) <;> rfl) (by decide +kernel) (.new 19 0 (by decide +kernel) rfl rfl .nil)) (fun e_ => .inl ⟨rfl, V1.t (V1.indexAddrA ty_91 sz_32 rfl rfl (by omega) (by omega)) ⟨rfl, rfl⟩⟩) ?_
      refine Det.cons 21 (ins := [(164, _)]) (.new 20 0 (by decide +kernel) rfl rfl .nil) (fun e_ => .inl ⟨rfl, V1.t (V1.load1 one_32 rfl (show Rd _ _ ⟨b8, 0 + i * 1, none⟩ (w64 (Sh.table.getD i 0)) from by rw [Nat.mul_one]; exact Rd.at (by repeat (first | exact Find.here | assumption | apply Find.there | apply Find.far)) (tableV_get (by omega)))) ⟨rfl, rfl⟩⟩) ?_
      refine Det.cons 22 (ins := [(165, _)]) (.new 21 0 (by decide +kernel) rfl rfl .nil) (fun e_ => .inl ⟨rfl, V1.t (V1.shrW (k := 32) u64U rfl rfl) ⟨rfl, rfl⟩⟩) ?_
      refine Det.cons 23 (ins := [(166, _)]) (.new 22 0 (by decide +kernel) rfl rfl .nil) (fun e_ => .inl ⟨rfl, V1.t (V1.convW 32 u32U ty_32 ty_77 rfl) ⟨rfl, rfl⟩⟩) ?_
      refine Det.cons 24 (ins := [(162, _), (167, _)]) (.new 18 5 (by decide +kernel) rfl rfl (.new 23 0 (by decide +kernel) rfl rfl .nil)) (fun e_ => .inl ⟨rfl, V1.t (V1.addW u32U rfl rfl) ⟨rfl, rfl⟩⟩) ?_
      refine Det.cons 25 (ins := [(17, _)]) (.old (by (conv => lhs; whnf) <;> rfl) (by decide +kernel) .nil) (fun e_ => .inl ⟨rfl, V1.t (V1.move' (by (conv => lhs; whnf) <;> rfl)) ⟨rfl, rfl⟩⟩) ?_
      refine Det.cons 26 (ins := [(4, _), (169, _)]) (.old (by (conv => lhs; whnf) <;> rfl) (by decide +kernel) (.new 25 0 (by decide +kernel) rfl rfl .nil)) (fun e_ => .inl ⟨rfl, V1.t (V1.indexAddrA ty_89 sz_77 rfl rfl (by omega) (by omega)) ⟨rfl, rfl⟩⟩) ?_
      refine Det.cons 27 (ins := [(170, _)]) (.new 26 0 (by decide +kernel) rfl rfl .nil) (fun e_ => .inl ⟨rfl, V1.t (V1.load1 one_77 rfl (show Rd _ _ ⟨b4, 0 + i * 1, none⟩ (w32 (WW.getD i 0)) from by rw [Nat.mul_one]; exact Rd.at (by repeat (first | exact Find.here | assumption | apply Find.there | apply Find.far)) (fill_get 0 (by omega) (by omega)))) ⟨rfl, rfl⟩⟩) ?_
      refine Det.cons 28 (ins := [(168, _), (171, _)]) (.new 24 3 (by decide +kernel) rfl rfl (.new 27 0 (by decide +kernel) rfl rfl .nil)) (fun e_ => .inl ⟨rfl, V1.t (V1.addW u32U rfl rfl) ⟨rfl, rfl⟩⟩) ?_
      refine Det.cons 29 (ins := [(172, _)]) (.new 28 0 (by decide +kernel) rfl rfl .nil) (fun e_ => .inl ⟨rfl, V1.t (V1.assign' (by (conv => lhs; whnf) <;> rfl)) ⟨rfl, rfl⟩⟩) ?_
      refine Det.nil 30 (l := [(0, _), (4, _), (8, _), (9, _), (10, _), (11, _), (12, _), (13, _), (14, _), (15, _), (18, _), (141, _)]) (.old (by (conv => lhs; whnf) <;> rfl) (by decide +kernel) (.old (by (conv => lhs; whnf) <;> rfl) (by decide +kernel) (.old (by (conv => lhs; whnf) <;> rfl) (by decide +kernel) (.old (by (conv => lhs; whnf) <;> rfl) (by decide +kernel) (.old (by (conv => lhs; whnf) <;> rfl) (by decide +kernel) (.old (by (conv => lhs; whnf) <;> rfl) (by decide +kernel) (.old (by (conv => lhs; whnf) <;> rfl) (by decide +kernel) (.old (by (conv => lhs; whnf) <;> rfl) (by decide +kernel) (.old (by (conv => lhs; whnf) <;> rfl) (by decide +kernel) (.old (by (conv => lhs; whnf) <;> rfl) (by decide +kernel) (.new 29 0 (by decide +kernel) rfl rfl (.old (by (conv => lhs; whnf) <;> rfl) (by decide +kernel) .nil)))))))))))) (fun e_ => ?_)
      refine T.seq ?_
      refine T.region ?_
      refine TL.cons rfl (V1.t (V1.move' (by (conv => lhs; whnf) <;> rfl)) ?_)
      refine TL.cons rfl (T1.call0 has_37 rfl (fun w hs => RotL32_any _ _ w) (fun v hv => ?_))
      rw [RL32_30] at hv
      subst hv
      refine TL.cons rfl (V1.t (V1.move' (by (conv => lhs; whnf) <;> rfl)) ?_)
      refine TL.cons rfl (T1.call0 has_37 rfl (fun w hs => RotL32_any _ _ w) (fun v hv => ?_))
      rw [RL32_19] at hv
      subst hv
      refine TL.cons rfl (V1.t (V1.xorW u32U rfl rfl) ?_)
      refine TL.cons rfl (V1.t (V1.move' (by (conv => lhs; whnf) <;> rfl)) ?_)
      refine TL.cons rfl (T1.call0 has_37 rfl (fun w hs => RotL32_any _ _ w) (fun v hv => ?_))
      rw [RL32_10] at hv
      subst hv
      refine TL.cons rfl (V1.t (V1.xorW u32U rfl rfl) ?_)
      refine TL.cons rfl (V1.t (V1.move' (by (conv => lhs; whnf) <;> rfl)) ?_)
      refine TL.cons rfl (V1.t (V1.move' (by (conv => lhs; whnf) <;> rfl)) ?_)
      refine TL.cons rfl (V1.t (V1.andW u32U rfl rfl) ?_)
      refine TL.cons rfl (V1.t (V1.move' (by (conv => lhs; whnf) <;> rfl)) ?_)
      refine TL.cons rfl (V1.t (V1.move' (by (conv => lhs; whnf) <;> rfl)) ?_)
      refine TL.cons rfl (V1.t (V1.andW u32U rfl rfl) ?_)
      refine TL.cons rfl (V1.t (V1.xorW u32U rfl rfl) ?_)
      refine TL.cons rfl (V1.t (V1.move' (by (conv => lhs; whnf) <;> rfl)) ?_)
      refine TL.cons rfl (V1.t (V1.move' (by (conv => lhs; whnf) <;> rfl)) ?_)
      refine TL.cons rfl (V1.t (V1.andW u32U rfl rfl) ?_)
      refine TL.cons rfl (V1.t (V1.xorW u32U rfl rfl) ?_)
      refine TL.cons rfl (V1.t (V1.addW u32U rfl rfl) ?_)
      refine TL.cons rfl (V1.t (V1.assign' (by (conv => lhs; whnf) <;> rfl)) ?_)
      refine TL.nil ?_
      refine T.live (l := [(0, _), (4, _), (8, _), (9, _), (10, _), (11, _), (12, _), (13, _), (14, _), (15, _), (18, _), (19, _), (141, _)]) (.cons (by (conv => lhs; whnf) <;> rfl) (.cons (by (conv => lhs; whnf) <;> rfl) (.cons (by (conv => lhs; whnf) <;> rfl) (.cons (by (conv => lhs; whnf) <;> rfl) (.cons (by (conv => lhs; whnf) <;> rfl) (.cons (by (conv => lhs; whnf) <;> rfl) (.cons (by (conv => lhs; whnf) <;> rfl) (.cons (by (conv => lhs; whnf) <;> rfl) (.cons (by (conv => lhs; whnf) <;> rfl) (.cons (by (conv => lhs; whnf) <;> rfl) (.cons (by (conv => lhs; whnf) <;> rfl) (.cons (by (conv => lhs; whnf) <;> rfl) (.cons (by (conv => lhs; whnf) <;> rfl) .nil))))))))))))) (fun e_ => ?_)
      refine T.region ?_
      refine TL.cons rfl (V1.t (V1.move' (by (conv => lhs; whnf) <;> rfl)) ?_)
      refine TL.cons rfl (V1.t (V1.move' (by (conv => lhs; whnf) <;> rfl)) ?_)
      refine TL.cons rfl (V1.t (V1.addW u32U rfl rfl) ?_)
      refine TL.cons rfl (V1.t (V1.move' (by (conv => lhs; whnf) <;> rfl)) ?_)
      refine TL.cons rfl (V1.t (V1.move' (by (conv => lhs; whnf) <;> rfl)) ?_)
      refine TL.cons rfl (V1.t (V1.move' (by (conv => lhs; whnf) <;> rfl)) ?_)
      refine TL.cons rfl (V1.t (V1.move' (by (conv => lhs; whnf) <;> rfl)) ?_)
      refine TL.cons rfl (V1.t (V1.move' (by (conv => lhs; whnf) <;> rfl)) ?_)
      refine TL.cons rfl (V1.t (V1.addW u32U rfl rfl) ?_)
      refine TL.cons rfl (V1.t (V1.move' (by (conv => lhs; whnf) <;> rfl)) ?_)
      refine TL.cons rfl (V1.t (V1.move' (by (conv => lhs; whnf) <;> rfl)) ?_)
      refine TL.cons rfl (V1.t (V1.move' (by (conv => lhs; whnf) <;> rfl)) ?_)
      refine TL.cons rfl (V1.t (V1.assign' (by (conv => lhs; whnf) <;> rfl)) ?_)
      refine TL.cons rfl (V1.t (V1.assign' (by (conv => lhs; whnf) <;> rfl)) ?_)
      refine TL.cons rfl (V1.t (V1.assign' (by (conv => lhs; whnf) <;> rfl)) ?_)
      refine TL.cons rfl (V1.t (V1.assign' (by (conv => lhs; whnf) <;> rfl)) ?_)
      refine TL.cons rfl (V1.t (V1.assign' (by (conv => lhs; whnf) <;> rfl)) ?_)
      refine TL.cons rfl (V1.t (V1.assign' (by (conv => lhs; whnf) <;> rfl)) ?_)
      refine TL.cons rfl (V1.t (V1.assign' (by (conv => lhs; whnf) <;> rfl)) ?_)
      refine TL.cons rfl (V1.t (V1.assign' (by (conv => lhs; whnf) <;> rfl)) ?_)
      refine TL.nil ?_
      refine T.live (l := [(0, _), (4, _), (8, _), (9, _), (10, _), (11, _), (12, _), (13, _), (14, _), (15, _), (16, _), (141, _)]) (.cons (by (conv => lhs; whnf) <;> rfl) (.cons (by (conv => lhs; whnf) <;> rfl) (.cons (by (conv => lhs; whnf) <;> rfl) (.cons (by (conv => lhs; whnf) <;> rfl) (.cons (by (conv => lhs; whnf) <;> rfl) (.cons (by (conv => lhs; whnf) <;> rfl) (.cons (by (conv => lhs; whnf) <;> rfl) (.cons (by (conv => lhs; whnf) <;> rfl) (.cons (by (conv => lhs; whnf) <;> rfl) (.cons (by (conv => lhs; whnf) <;> rfl) (.cons (by (conv => lhs; whnf) <;> rfl) (.cons (by (conv => lhs; whnf) <;> rfl) .nil)))))))))))) (fun e_ => ?_)
      refine T.region ?_
      refine TL.cons rfl (V1.t (V1.add rfl rfl (wrap_i64 _ (by omega) (by omega))) ?_)
      refine TL.cons rfl (V1.t (V1.move' (by (conv => lhs; whnf) <;> rfl)) ?_)
      refine TL.nil ?_
      exact ⟨i + 1, _, _, (by simp only; omega), (.cons rfl (.cons rfl (.cons rfl (.cons rfl (.cons rfl (.cons rfl (.cons rfl (.cons rfl (.cons rfl .nil))))))))), (.cons rfl (.cons rfl (.cons rfl .nil))), (by repeat (first | exact Take.nil | apply Take.one (by repeat (first | exact Pick.here | apply Pick.there | apply Pick.far)) | apply Take.seg (by repeat (first | exact PickS.last | exact PickS.one | exact PickS.here | exact PickS.nil | apply PickS.there | apply PickS.far)) | exact Take.last (by repeat (first | exact PickS.last | exact PickS.one | exact PickS.here | exact PickS.nil | apply PickS.there | apply PickS.far)))), ⟨rfl, by omega⟩⟩
    ·
      obtain rfl : i = 64 := by omega
      refine TL.nil ?_
      refine T.seq ?_
      refine T.cond_f rfl ?_
      refine T.exit ?_
      refine T.seq ?_
      refine T.region ?_
      refine TL.cons rfl (V1.t (V1.move' (by (conv => lhs; whnf) <;> rfl)) ?_)
      refine TL.cons rfl (V1.t (V1.move' (by (conv => lhs; whnf) <;> rfl)) ?_)
      refine TL.cons rfl (V1.t (V1.move' (by (conv => lhs; whnf) <;> rfl)) ?_)
      refine TL.cons rfl (V1.t (V1.move' (by (conv => lhs; whnf) <;> rfl)) ?_)
      refine TL.cons rfl (V1.t (V1.move' (by (conv => lhs; whnf) <;> rfl)) ?_)
      refine TL.cons rfl (V1.t (V1.move' (by (conv => lhs; whnf) <;> rfl)) ?_)
      refine TL.cons rfl (V1.t (V1.move' (by (conv => lhs; whnf) <;> rfl)) ?_)
      refine TL.cons rfl (V1.t (V1.move' (by (conv => lhs; whnf) <;> rfl)) ?_)
      refine TL.cons rfl (V1.t (V1.buildFA ty_78 sz_77 zr_78 (.one rfl (by (conv => lhs; whnf) <;> rfl) rfl (.one rfl (by (conv => lhs; whnf) <;> rfl) rfl (.one rfl (by (conv => lhs; whnf) <;> rfl) rfl (.one rfl (by (conv => lhs; whnf) <;> rfl) rfl (.one rfl (by (conv => lhs; whnf) <;> rfl) rfl (.one rfl (by (conv => lhs; whnf) <;> rfl) rfl (.one rfl (by (conv => lhs; whnf) <;> rfl) rfl (.one rfl (by (conv => lhs; whnf) <;> rfl) rfl .nil)))))))) (by repeat (first | exact FillL.nil | exact SetN.done | apply SetN.here | apply SetN.there | apply FillL.cons))) ?_)
      refine TL.cons rfl (V1.t (V1.move' (by (conv => lhs; whnf) <;> rfl)) ?_)
      refine TL.nil ?_
      refine T.block ?_
      refine T.loopL (σ := Nat) (l0 := [(0, _), (214, _)]) (fun x => [(215, .int .i64 (x : Nat))]) (fun x L => L = ⟨bh, 0, s :: w64 n :: (((stL (addR st (rnds T256 WW st 64))).map w32).take x ++ ((stL st).map w32).drop x), 10⟩ :: ⟨bp, op, l.map byteV, size⟩ :: G ∧ x ≤ 8) (fun x => 8 - x) 0 (.cons rfl .nil) (.cons (by (conv => lhs; whnf) <;> rfl) (.cons (by (conv => lhs; whnf) <;> rfl) .nil)) (by repeat (first | exact Take.nil | apply Take.one (by repeat (first | exact Pick.here | apply Pick.there | apply Pick.far)) | apply Take.seg (by repeat (first | exact PickS.last | exact PickS.one | exact PickS.here | exact PickS.nil | apply PickS.there | apply PickS.far)) | exact Take.last (by repeat (first | exact PickS.last | exact PickS.one | exact PickS.here | exact PickS.nil | apply PickS.there | apply PickS.far)))) (⟨rfl, Nat.zero_le _⟩) ?_
      rintro i e_ L ⟨rfl, hi⟩
      refine T.seq ?_
      refine T.region ?_
      refine TL.cons rfl (T1.ltI_split rfl rfl (fun h19_0 => ?_) (fun h19_0 => ?_))
      ·
        refine TL.nil ?_
        refine T.seq ?_
        refine T.cond_t rfl ?_
        refine T.skip ?_
        refine T.seq ?_
        refine T.block ?_
        refine T.seq ?_
        refine T.region ?_
        refine TL.cons rfl (V1.t (V1.move' (by (conv => lhs; whnf) <;> rfl)) ?_)
        refine TL.cons rfl (V1.t (V1.indexA ty_78 sz_77 rfl rfl (by omega) (by omega) (fun w => run_part1 one_77 (show ((stL (rnds T256 WW st 64)).map w32).toArray[i * 1]? = some (w32 ((stL (rnds T256 WW st 64)).getD i 0)) from stL_arr (by omega)) w)) ?_)
        refine TL.cons rfl (V1.t (V1.assign' (by (conv => lhs; whnf) <;> rfl)) ?_)
        refine TL.cons rfl (V1.t (V1.assign' (by (conv => lhs; whnf) <;> rfl)) ?_)
        refine TL.nil ?_
        refine T.drawTail 10 mixed (by decide +kernel) (by rfl) (by decide +kernel) rfl ?_
        refine Det.cons 0 (ins := [(0, _)]) (.old (by (conv => lhs; whnf) <;> rfl) (by decide +kernel) .nil) (fun e_ => .inl ⟨rfl, V1.t (V1.move' (by (conv => lhs; whnf) <;> rfl)) ⟨rfl, rfl⟩⟩) ?_
        refine Det.cons 1 (ins := [(20, _)]) (.old (by (conv => lhs; whnf) <;> rfl) (by decide +kernel) .nil) (fun e_ => .inl ⟨rfl, V1.t (V1.move' (by (conv => lhs; whnf) <;> rfl)) ⟨rfl, rfl⟩⟩) ?_
        refine Det.cons 2 (ins := [(219, _)]) (.new 0 1 (by decide +kernel) rfl rfl .nil) (fun e_ => .inl ⟨rfl, V1.t (V1.nilCheck rfl) ⟨rfl, rfl⟩⟩) ?_
        refine Det.cons 3 (ins := [(221, _)]) (.new 2 0 (by decide +kernel) rfl rfl .nil) (fun e_ => .inl ⟨rfl, V1.t (V1.fieldAddr fl_82_1 rfl) ⟨rfl, rfl⟩⟩) ?_
        refine Det.cons 4 (ins := [(220, _), (222, _)]) (.new 1 2 (by decide +kernel) rfl rfl (.new 3 0 (by decide +kernel) rfl rfl .nil)) (fun e_ => .inl ⟨rfl, V1.t (V1.indexAddrA ty_78 sz_77 rfl rfl (by omega) (by omega)) ⟨rfl, rfl⟩⟩) ?_
        refine Det.cons 5 (ins := [(223, _)]) (.new 4 0 (by decide +kernel) rfl rfl .nil) (fun e_ => .inl ⟨rfl, V1.t (V1.load1 one_77 rfl (show Rd _ _ ⟨bh, 0 + 2 + i * 1, none⟩ (w32 ((stL st).getD i 0)) from by rw [show 0 + 2 + i * 1 = 0 + (i + 2) from by omega]; exact Rd.at (by repeat (first | exact Find.here | assumption | apply Find.there | apply Find.far)) (show (s :: w64 n :: (((stL (addR st (rnds T256 WW st 64))).map w32).take i ++ ((stL st).map w32).drop i))[i + 2]? = some (w32 ((stL st).getD i 0)) from (mix_get (by simp [stL]) (by simp [stL]; omega)).trans (stL_map (by omega))))) ⟨rfl, rfl⟩⟩) ?_
        refine Det.cons 6 (ins := [(21, _)]) (.old (by (conv => lhs; whnf) <;> rfl) (by decide +kernel) .nil) (fun e_ => .inl ⟨rfl, V1.t (V1.move' (by (conv => lhs; whnf) <;> rfl)) ⟨rfl, rfl⟩⟩) ?_
        refine Det.cons 7 (ins := [(224, _), (225, _)]) (.new 5 1 (by decide +kernel) rfl rfl (.new 6 0 (by decide +kernel) rfl rfl .nil)) (fun e_ => .inl ⟨rfl, V1.t (V1.addW u32U rfl rfl) ⟨rfl, rfl⟩⟩) ?_
        refine Det.cons 8 (ins := [(219, _)]) (.new 0 7 (by decide +kernel) rfl rfl .nil) (fun e_ => .inl ⟨rfl, V1.t (V1.nilCheck rfl) ⟨rfl, rfl⟩⟩) ?_
        refine Det.cons 9 (ins := [(227, _)]) (.new 8 0 (by decide +kernel) rfl rfl .nil) (fun e_ => .inl ⟨rfl, V1.t (V1.fieldAddr fl_82_1 rfl) ⟨rfl, rfl⟩⟩) ?_
        refine Det.nil 10 (l := [(0, _), (214, _), (215, _), (220, _), (226, _), (228, _)]) (.old (by (conv => lhs; whnf) <;> rfl) (by decide +kernel) (.old (by (conv => lhs; whnf) <;> rfl) (by decide +kernel) (.old (by (conv => lhs; whnf) <;> rfl) (by decide +kernel) (.new 1 8 (by decide +kernel) rfl rfl (.new 7 2 (by decide +kernel) rfl rfl (.new 9 0 (by decide +kernel) rfl rfl .nil)))))) (fun e_ => ?_)
        refine (show TU _ _ _ 2 _ _ _ from ?_)
        refine TU.one 10 (by decide +kernel) rfl rfl (V1.t (V1.indexAddrA ty_78 sz_77 rfl rfl (by omega) (by omega)) ?_)
        refine TU.one 11 (by decide +kernel) rfl rfl (T1.storeE (o := 0 + 2 + i * 1) (cells := s :: w64 n :: (((stL (addR st (rnds T256 WW st 64))).map w32).take i ++ ((stL st).map w32).drop i)) (cells' := s :: w64 n :: (((stL (addR st (rnds T256 WW st 64))).map w32).take (i + 1) ++ ((stL st).map w32).drop (i + 1))) rfl (congrArg w32 (addR_get st (rnds T256 WW st 64) i).symm) sz_77 rfl (by rw [show 0 + 2 + i * 1 - 0 = i + 2 from by omega]; show s :: w64 n :: List.set _ i _ = _; rw [mix_set (by simp [stL]) (stL_map (by omega))]) (by repeat (first | exact Sub.one | apply Sub.there | apply Sub.far)) (Nat.zero_le _) (by simp only [List.length_cons, List.length_append, List.length_take, List.length_drop, List.length_map]; simp only [stL, List.length_cons, List.length_nil]; omega) ?_)
        refine TU.done (by decide +kernel) ?_
        refine T.region ?_
        refine TL.cons rfl (V1.t (V1.add rfl rfl (wrap_i64 _ (by omega) (by omega))) ?_)
        refine TL.cons rfl (V1.t (V1.move' (by (conv => lhs; whnf) <;> rfl)) ?_)
        refine TL.nil ?_
        exact ⟨i + 1, _, _, (by simp only; omega), (.cons rfl .nil), (.cons rfl (.cons rfl .nil)), (by repeat (first | exact Take.nil | apply Take.one (by repeat (first | exact Pick.here | apply Pick.there | apply Pick.far)) | apply Take.seg (by repeat (first | exact PickS.last | exact PickS.one | exact PickS.here | exact PickS.nil | apply PickS.there | apply PickS.far)) | exact Take.last (by repeat (first | exact PickS.last | exact PickS.one | exact PickS.here | exact PickS.nil | apply PickS.there | apply PickS.far)))), ⟨rfl, by omega⟩⟩
      ·
        obtain rfl : i = 8 := by omega
        rw [mix_end]
        refine TL.nil ?_
        refine T.seq ?_
        refine T.cond_f rfl ?_
        refine T.exit ?_
        -- the end
        exact ⟨_, ⟨bh, 0, [s, w64 n, w32 (addR st (rnds T256 WW st 64)).a, w32 (addR st (rnds T256 WW st 64)).b, w32 (addR st (rnds T256 WW st 64)).c, w32 (addR st (rnds T256 WW st 64)).d, w32 (addR st (rnds T256 WW st 64)).e, w32 (addR st (rnds T256 WW st 64)).f, w32 (addR st (rnds T256 WW st 64)).g, w32 (addR st (rnds T256 WW st 64)).h], 10⟩ :: ⟨bp, op, l.map byteV, size⟩ :: G, _, .nil, (by repeat (first | exact Take.nil | apply Take.one (by repeat (first | exact Pick.here | apply Pick.there | apply Pick.far)) | apply Take.seg (by repeat (first | exact PickS.last | exact PickS.one | exact PickS.here | exact PickS.nil | apply PickS.there | apply PickS.far)) | exact Take.last (by repeat (first | exact PickS.last | exact PickS.one | exact PickS.here | exact PickS.nil | apply PickS.there | apply PickS.far)))), [⟨bh, 0, [s, w64 n, w32 (addR st (rnds T256 WW st 64)).a, w32 (addR st (rnds T256 WW st 64)).b, w32 (addR st (rnds T256 WW st 64)).c, w32 (addR st (rnds T256 WW st 64)).d, w32 (addR st (rnds T256 WW st 64)).e, w32 (addR st (rnds T256 WW st 64)).f, w32 (addR st (rnds T256 WW st 64)).g, w32 (addR st (rnds T256 WW st 64)).h], 10⟩, ⟨bp, op, l.map byteV, size⟩], rfl, by rw [hB]⟩

end Go.Proofs.Ytmolpgnekcfimaa.S
