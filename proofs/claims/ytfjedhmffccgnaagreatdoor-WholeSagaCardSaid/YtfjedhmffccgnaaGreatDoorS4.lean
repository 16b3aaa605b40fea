/- One block of SHA-512. -/
import Derived.Test.YtfjedhmffccgnaaGreatDoorS2
namespace Go.Proofs.YtfjedhmffccgnaaGreatDoor.S
open Go.RowKit
open Sh
theorem RL64_1 (x : BitVec 64) : RL64 x (-1) = rotr x 1 := by kernel_rfl
theorem RL64_8 (x : BitVec 64) : RL64 x (-8) = rotr x 8 := by kernel_rfl
theorem RL64_19 (x : BitVec 64) : RL64 x (-19) = rotr x 19 := by kernel_rfl
theorem RL64_61 (x : BitVec 64) : RL64 x (-61) = rotr x 61 := by kernel_rfl
theorem RL64_14 (x : BitVec 64) : RL64 x (-14) = rotr x 14 := by kernel_rfl
theorem RL64_18 (x : BitVec 64) : RL64 x (-18) = rotr x 18 := by kernel_rfl
theorem RL64_41 (x : BitVec 64) : RL64 x (-41) = rotr x 41 := by kernel_rfl
theorem RL64_28 (x : BitVec 64) : RL64 x (-28) = rotr x 28 := by kernel_rfl
theorem RL64_34 (x : BitVec 64) : RL64 x (-34) = rotr x 34 := by kernel_rfl
theorem RL64_39 (x : BitVec 64) : RL64 x (-39) = rotr x 39 := by kernel_rfl
theorem tableA {i : Nat} (h : i < 80) : tableV.toArray[i * 1]? = some (w64 (Sh.table.getD i 0)) := by
 rw [Nat.mul_one, List.getElem?_toArray]; exact tableV_get h
theorem stL_map64 {s : R8 64} {i : Nat} (h : i < 8) : ((stL s).map w64)[i]? = some (w64 ((stL s).getD i 0)) := by
 rw [List.getElem?_map, List.getD_eq_getElem?_getD, List.getElem?_eq_getElem (show i < (stL s).length from h)]; rfl
theorem stL_arr64 {s : R8 64} {i : Nat} (h : i < 8) : ((stL s).map w64).toArray[i * 1]? = some (w64 ((stL s).getD i 0)) := by
 rw [Nat.mul_one, List.getElem?_toArray]; exact stL_map64 h
theorem mix_end64 (X Y : R8 64) : ((stL X).map w64).take 8 ++ ((stL Y).map w64).drop 8 = [w64 X.a, w64 X.b, w64 X.c, w64 X.d, w64 X.e, w64 X.f, w64 X.g, w64 X.h] := rfl
theorem at_get {α : Type} {A Z : List α} {x : α} {i : Nat} (h : A.length = i) : (A ++ x :: Z)[i]? = some x := by subst h; simp
theorem at_set {α : Type} {A Z : List α} {x y : α} {i : Nat} (h : A.length = i) : (A ++ x :: Z).set i y = A ++ y :: Z := by subst h; simp
theorem fill_open {α : Type} {f : α → Value} {WW : List α} {z : Value} {m i : Nat} (hi : i < m) : (WW.take i).map f ++ List.replicate (m - i) z = (WW.take i).map f ++ z :: List.replicate (m - (i + 1)) z := by
 rw [show m - i = (m - (i + 1)) + 1 from by omega, List.replicate_succ]
theorem fill_shut {α : Type} {f : α → Value} {WW : List α} {z : Value} {m i : Nat} (d : α) (hl : WW.length = m) (hi : i < m) : (WW.take i).map f ++ f (WW.getD i d) :: List.replicate (m - (i + 1)) z = (WW.take (i + 1)).map f ++ List.replicate (m - (i + 1)) z := by
 rw [List.take_add_one, List.getElem?_eq_getElem zw, List.map_append, List.append_assoc, List.getD_eq_getElem?_getD, List.getElem?_eq_getElem (by omega)]; rfl
theorem word_take {w : Nat} {l : List UInt8} {c : Nat} (h : c < l.length) : word w (l.take (c + 1)) = (word w (l.take c) <<< 8) ||| (l.getD c 0).toBitVec.setWidth w := by
 rw [List.take_add_one, getD_some h]
 exact word_snoc w _ _
theorem W_load64 {l : List UInt8} {i : Nat} (hi : i < 16) : (sched T512 (words 64 (l.take 128)) 64).getD i 0 = word 64 ((((l.take 128).drop (8 * i)).take 8).take 8) := by
 rw [sched_first T512 _ (by rw [words_len]; exact hi), words_get _ hi, List.take_take]; rfl
theorem W_next64 {l : List UInt8} {j : Nat} (hj : j < 64) : (sched T512 (words 64 (l.take 128)) 64).getD (16 + j) 0 =
 (sched T512 (words 64 (l.take 128)) 64).getD j 0 + (sched T512 (words 64 (l.take 128)) 64).getD (j + 9) 0 + low T512 ((sched T512 (words 64 (l.take 128)) 64).getD (j + 1) 0) + high T512 ((sched T512 (words 64 (l.take 128)) 64).getD (j + 14) 0) :=
 sched_rec T512 _ (words_len _) hj
theorem V1.sliceMid {C : Ctx} {e : Env} {L : List Blk} {dst : Option Tmp} {ty : TypeId} {pos : String} {after : Array Edge} {guard : Option (Nat × Bool)} {t el : TypeId} {x : Operand} {lo hi : Option Operand} {b o len cap : Nat} (l n : Nat) (hT : C.P.underlying t = some (.slice el)) (hk : SizeIs C.P el 1) (hx : ev C.n e x = .slice (some ⟨b, o, none⟩) len cap)
 (hl : bd C.n e lo 0 = some (l : Int)) (hh : bd C.n e hi len = some ((l + n : Nat) : Int)) (h1 : l + n ≤ cap) (h2 : l < cap) : V1 C ⟨dst, .slice t x lo hi none, ty, pos, after, guard⟩ e L (.slice (some ⟨b, o + l, none⟩) n (cap - l)) := by
 have := V1.sliceSl (dst := dst) (ty := ty) (pos := pos) (after := after) (guard := guard) (L := L) hT hk hx hl hh zw zw zw
 rw [Int.toNat_natCast, Int.toNat_natCast, if_neg zw, Nat.mul_one, show l + n - l = n from by omega] at this
 exact this
theorem map_byte_mid {l : List UInt8} {i c : Nat} (h : 8 * i + c < 128 ∧ c < 8) (hl : 128 ≤ l.length) : (l.map byteV)[8 * i + c]? = some (byteV ((((l.take 128).drop (8 * i)).take 8).getD c 0)) := by
 rw [List.getElem?_map, List.getD_eq_getElem?_getD, List.getElem?_take_of_lt h.2, List.getElem?_drop, List.getElem?_take_of_lt h.1, List.getElem?_eq_getElem (by omega)]; rfl
set_option maxRecDepth 100000 in
set_option maxHeartbeats 4000000 in
theorem block512_any (w0 : World) (bh bp op size cap : Nat) (s : Value) (n : BitVec 64) (st : R8 64) (l : List UInt8) (hl : 128 ≤ l.length) (hcap : 128 ≤ cap) : FnX P 125 [.pointer (some ⟨bh, 0, none⟩), .slice (some ⟨bp, op, none⟩) 128 cap] w0 [] [⟨bh, 0, [s, w64 n, w64 st.a, w64 st.b, w64 st.c, w64 st.d, w64 st.e, w64 st.f, w64 st.g, w64 st.h], 10⟩, ⟨bp, op, l.map byteV, size⟩] (fun _ Y => Y = [⟨bh, 0, [s, w64 n, w64 (blockS T512 st (l.take 128)).a, w64 (blockS T512 st (l.take 128)).b, w64 (blockS T512 st (l.take 128)).c, w64 (blockS T512 st (l.take 128)).d, w64 (blockS T512 st (l.take 128)).e, w64 (blockS T512 st (l.take 128)).f, w64 (blockS T512 st (l.take 128)).g, w64 (blockS T512 st (l.take 128)).h], 10⟩, ⟨bp, op, l.map byteV, size⟩]) := by
 obtain ⟨WW, hWW⟩ : ∃ WW, WW = sched T512 (words 64 (l.take 128)) 64 := ⟨_, rfl⟩
 have hWl : WW.length = 80 := by rw [hWW, sched_len, words_len]
 have hB : blockS T512 st (l.take 128) = addR st (rnds T512 WW st 80) := by rw [hWW]; kernel_rfl
 refine FnX.of 191 [] Go.Proofs.Tryz.func125 rfl rfl rfl rfl (fun G => ?_)
 refine zs ?_
 refine zc (T1.allocN 80 zr_195 rfl (fun b4 => ?_))
 refine TL.nil ?_
 refine T.seq (T.seq (T.region (z1 ?_)))
 refine T.block (T.loopL (σ := Nat) (l0 := [(0, _), (1, _), (4, _)]) (fun x => [(17, .int .i64 (x : Nat))]) (fun x L => L = ⟨b4, 0, (WW.take (x)).map w64 ++ List.replicate (80 - (x)) (.int .u64 0), 80⟩ :: ⟨bh, 0, [s, w64 n, w64 st.a, w64 st.b, w64 st.c, w64 st.d, w64 st.e, w64 st.f, w64 st.g, w64 st.h], 10⟩ :: ⟨bp, op, l.map byteV, size⟩ :: G ∧ x ≤ 80) (fun x => 80 - x) 0 (.cons rfl .nil) zT z_B (⟨rfl, Nat.zero_le _⟩) ?_)
 rintro i e_ L ⟨rfl, hi⟩
 refine zs ?_
 refine zc (T1.ltI_split rfl rfl (fun h2_0 => ?_) (fun h2_0 => ?_))
 ·
  refine zs ?_
  refine T.cond_t rfl (zs ?_)
  refine zc (T1.ltI_split rfl rfl (fun h4_1 => ?_) (fun h4_1 => ?_))
  ·
   have hWi := W_load64 (l := l) (i := i) zw
   rw [← hWW] at hWi
   have hbl : (((l.take 128).drop (8 * i)).take 8).length = 8 := by rw [List.length_take, List.length_drop, List.length_take]; omega
   rw [fill_open (by omega)]
   refine TL.nil ?_
   refine T.cond_t rfl (zs ?_)
   refine zq (V1.mul rfl rfl (wrap_i64 _ zw zw)) ?_
   refine z0 (V1.mul rfl rfl (wrap_i64 _ zw zw)) ?_
   refine z0 (V1.add rfl rfl (wrap_i64 _ zw zw)) ?_
   refine z0 (V1.sliceMid (8 * i) 8 ty_44 sz_5 rfl rfl rfl zw zw) ?_
   refine zq1 (V1.lenSl ty_44 rfl) ?_
   refine T.block (T.loopL (σ := Nat) (l0 := [(0, _), (1, _), (4, _), (5, _), (17, _), (28, _), (29, _)]) (fun x => [(30, .int .i64 (x : Nat))]) (fun x L => L = ⟨b4, 0, (WW.take i).map w64 ++ w64 (word 64 ((((l.take 128).drop (8 * i)).take 8).take (x))) :: List.replicate (80 - (i + 1)) (.int .u64 0), 80⟩ :: ⟨bh, 0, [s, w64 n, w64 st.a, w64 st.b, w64 st.c, w64 st.d, w64 st.e, w64 st.f, w64 st.g, w64 st.h], 10⟩ :: ⟨bp, op, l.map byteV, size⟩ :: G ∧ x ≤ 8) (fun x => 8 - x) 0 (.cons rfl .nil) zT z_B (⟨rfl, Nat.zero_le _⟩) ?_)
   rintro c e_ L ⟨rfl, hc⟩
   refine zs ?_
   refine zc (T1.ltI_split rfl rfl (fun h6_0 => ?_) (fun h6_0 => ?_))
   ·
    refine zs ?_
    refine T.cond_t rfl (zs ?_)
    refine z0 (V1.indexAddrS ty_44 sz_5 rfl rfl zw zw) ?_
    refine zq (V1.load1 one_5 rfl (show Rd _ _ ⟨bp, op + 8 * i + c * 1, none⟩ (byteV ((((l.take 128).drop (8 * i)).take 8).getD c 0)) from by rw [Nat.mul_one, Nat.add_assoc]; exact Rd.at z_A (map_byte_mid zw hl))) ?_
    refine z0 (V1.indexAddrA ty_195 sz_79 rfl rfl zw zw) ?_
    refine z0 (V1.load1 one_79 rfl (show Rd _ _ ⟨b4, 0 + i * 1, none⟩ (w64 (word 64 ((((l.take 128).drop (8 * i)).take 8).take c))) from by rw [Nat.mul_one]; exact Rd.at z_A (at_get (by rw [List.length_map, List.length_take]; omega)))) ?_
    refine zq (V1.shlW (k := 8) u64U rfl rfl) ?_
    refine z0 (V1.convW 64 u64U ty_5 ty_79 rfl) ?_
    refine z0 (V1.orW u64U rfl rfl) ?_
    refine z0 (V1.indexAddrA ty_195 sz_79 rfl rfl zw zw) ?_
    refine zc (T1.storeE (o := 0 + i * 1) (cells := (WW.take i).map w64 ++ w64 (word 64 ((((l.take 128).drop (8 * i)).take 8).take c)) :: List.replicate (80 - (i + 1)) (.int .u64 0)) (cells' := (WW.take i).map w64 ++ w64 (word 64 ((((l.take 128).drop (8 * i)).take 8).take (c + 1))) :: List.replicate (80 - (i + 1)) (.int .u64 0)) rfl (congrArg w64 (word_take (w := 64) (l := (((l.take 128).drop (8 * i)).take 8)) zw).symm) sz_79 rfl (by rw [show 0 + i * 1 - 0 = i from by omega]; exact at_set (by rw [List.length_map, List.length_take]; omega)) z_H (Nat.zero_le _) (by rw [List.length_append, List.length_map, List.length_take, List.length_cons, List.length_replicate]; omega) ?_)
    refine zs ?_
    refine zq1 (V1.add rfl rfl (wrap_i64 _ zw zw)) ?_
    exact ⟨c + 1, _, _, z_N, (.cons rfl .nil), (.cons rfl (.cons rfl (.cons rfl (.cons rfl (.cons rfl (.cons rfl (.cons rfl .nil))))))), z_B, ⟨rfl, by omega⟩⟩
   ·
    refine zs ?_
    refine T.cond_f rfl (zs ?_)
    refine zq1 (V1.add rfl rfl (wrap_i64 _ zw zw)) ?_
    obtain rfl : c = 8 := by omega
    rw [← hWi, fill_shut 0 hWl (by omega)]
    exact ⟨i + 1, _, _, z_N, (.cons rfl .nil), (.cons rfl (.cons rfl (.cons rfl .nil))), z_B, ⟨rfl, by omega⟩⟩
  ·
   obtain ⟨j, rfl⟩ : ∃ j, i = 16 + j := ⟨i - 16, by omega⟩
   have hWi := W_next64 (l := l) (j := j) zw
   rw [← hWW] at hWi
   refine TL.nil ?_
   refine T.cond_f rfl (T.skip (T.seq (T.drawDet' mixed z_F ?_)))
   refine zd 0 (zO 5 zZ) (V1.move' z_C) ?_
   refine zd 1 (zN 44 0 rfl zZ) (V1.sub rfl rfl (c := ((j + 1 : Nat) : Int)) z_J) ?_
   refine zd 2 (zO 4 (zN 45 1 rfl zZ)) (V1.indexAddrA ty_195 sz_79 rfl rfl zw zw) ?_
   refine Det.cons 3 (zN 46 2 rfl zZ) (fun e_ => .inl ⟨rfl, V1.t (V1.load1 one_79 rfl (show Rd _ _ ⟨b4, 0 + (j + 1) * 1, none⟩ (w64 (WW.getD (j + 1) 0)) from by rw [Nat.mul_one]; exact Rd.at z_A (fill_get 0 zw zw))) ⟨rfl, rfl⟩⟩) ?_
   refine zd 4 (zO 5 zZ) (V1.move' z_C) ?_
   refine zd 5 (zN 48 4 rfl zZ) (V1.sub rfl rfl (c := ((j + 14 : Nat) : Int)) z_J) ?_
   refine zd 6 (zO 4 (zN 49 5 rfl zZ)) (V1.indexAddrA ty_195 sz_79 rfl rfl zw zw) ?_
   refine Det.cons 7 (zN 50 6 rfl zZ) (fun e_ => .inl ⟨rfl, V1.t (V1.load1 one_79 rfl (show Rd _ _ ⟨b4, 0 + (j + 14) * 1, none⟩ (w64 (WW.getD (j + 14) 0)) from by rw [Nat.mul_one]; exact Rd.at z_A (fill_get 0 zw zw))) ⟨rfl, rfl⟩⟩) ?_
   refine zd 8 (zN 47 3 rfl zZ) (V1.assign' z_C) ?_
   refine zd 9 (zN 51 7 rfl zZ) (V1.assign' z_C) ?_
   refine Det.nil 10 (zQ 0 (zQ 1 (zQ 4 (zQ 5 (zR 8 8 rfl (zR 9 9 rfl (zQ 17 zW))))))) (fun e_ => ?_)
   refine T.drawTail 28 mixed z_F zr z_F rfl ?_
   refine zd 0 (zO 5 zZ) (V1.move' z_C) ?_
   refine zd 1 (zO 5 zZ) (V1.move' z_C) ?_
   refine zd 2 (zN 53 1 rfl zZ) (V1.sub rfl rfl (c := ((j : Nat) : Int)) z_J) ?_
   refine zd 3 (zO 4 (zN 54 2 rfl zZ)) (V1.indexAddrA ty_195 sz_79 rfl rfl zw zw) ?_
   refine Det.cons 4 (zN 55 3 rfl zZ) (fun e_ => .inl ⟨rfl, V1.t (V1.load1 one_79 rfl (show Rd _ _ ⟨b4, 0 + (j) * 1, none⟩ (w64 (WW.getD (j) 0)) from by rw [Nat.mul_one]; exact Rd.at z_A (fill_get 0 zw zw))) ⟨rfl, rfl⟩⟩) ?_
   refine zd 5 (zO 5 zZ) (V1.move' z_C) ?_
   refine zd 6 (zN 57 5 rfl zZ) (V1.sub rfl rfl (c := ((j + 9 : Nat) : Int)) z_J) ?_
   refine zd 7 (zO 4 (zN 58 6 rfl zZ)) (V1.indexAddrA ty_195 sz_79 rfl rfl zw zw) ?_
   refine Det.cons 8 (zN 59 7 rfl zZ) (fun e_ => .inl ⟨rfl, V1.t (V1.load1 one_79 rfl (show Rd _ _ ⟨b4, 0 + (j + 9) * 1, none⟩ (w64 (WW.getD (j + 9) 0)) from by rw [Nat.mul_one]; exact Rd.at z_A (fill_get 0 zw zw))) ⟨rfl, rfl⟩⟩) ?_
   refine zd 9 (zN 56 4 rfl (zN 60 8 rfl zZ)) (V1.addW u64U rfl rfl) ?_
   refine zd 10 (zO 8 zZ) (V1.move' z_C) ?_
   refine Det.cons 11 (v := w64 (rotr (WW.getD (j + 1) 0) 1)) (zN 62 10 rfl zZ) (fun e_ => .inl ⟨rfl, ?_⟩) ?_
   ·
    refine T1.call0 has_132 rfl (fun w hs => RotL64_any _ _ w) (fun v hv => ?_)
    rw [RL64_1] at hv
    subst hv
    exact ⟨rfl, rfl⟩
   refine zd 12 (zO 8 zZ) (V1.move' z_C) ?_
   refine Det.cons 13 (v := w64 (rotr (WW.getD (j + 1) 0) 8)) (zN 64 12 rfl zZ) (fun e_ => .inl ⟨rfl, ?_⟩) ?_
   ·
    refine T1.call0 has_132 rfl (fun w hs => RotL64_any _ _ w) (fun v hv => ?_)
    rw [RL64_8] at hv
    subst hv
    exact ⟨rfl, rfl⟩
   refine zd 14 (zN 63 11 rfl (zN 65 13 rfl zZ)) (V1.xorW u64U rfl rfl) ?_
   refine zd 15 (zO 8 zZ) (V1.move' z_C) ?_
   refine zd 16 (zN 67 15 rfl zZ) (V1.shrW (k := 7) u64U rfl rfl) ?_
   refine zd 17 (zN 66 14 rfl (zN 68 16 rfl zZ)) (V1.xorW u64U rfl rfl) ?_
   refine zd 18 (zN 61 9 rfl (zN 69 17 rfl zZ)) (V1.addW u64U rfl rfl) ?_
   refine zd 19 (zO 9 zZ) (V1.move' z_C) ?_
   refine Det.cons 20 (v := w64 (rotr (WW.getD (j + 14) 0) 19)) (zN 71 19 rfl zZ) (fun e_ => .inl ⟨rfl, ?_⟩) ?_
   ·
    refine T1.call0 has_132 rfl (fun w hs => RotL64_any _ _ w) (fun v hv => ?_)
    rw [RL64_19] at hv
    subst hv
    exact ⟨rfl, rfl⟩
   refine zd 21 (zO 9 zZ) (V1.move' z_C) ?_
   refine Det.cons 22 (v := w64 (rotr (WW.getD (j + 14) 0) 61)) (zN 73 21 rfl zZ) (fun e_ => .inl ⟨rfl, ?_⟩) ?_
   ·
    refine T1.call0 has_132 rfl (fun w hs => RotL64_any _ _ w) (fun v hv => ?_)
    rw [RL64_61] at hv
    subst hv
    exact ⟨rfl, rfl⟩
   refine zd 23 (zN 72 20 rfl (zN 74 22 rfl zZ)) (V1.xorW u64U rfl rfl) ?_
   refine zd 24 (zO 9 zZ) (V1.move' z_C) ?_
   refine zd 25 (zN 76 24 rfl zZ) (V1.shrW (k := 6) u64U rfl rfl) ?_
   refine zd 26 (zN 75 23 rfl (zN 77 25 rfl zZ)) (V1.xorW u64U rfl rfl) ?_
   refine zd 27 (zN 70 18 rfl (zN 78 26 rfl zZ)) (V1.addW u64U rfl rfl) ?_
   refine Det.nil 28 (zQ 0 (zQ 1 (zQ 4 (zQ 17 (zR 52 0 rfl (zR 79 27 rfl zW)))))) (fun e_ => ?_)
   refine (show TU _ _ _ 2 _ _ _ from ?_)
   refine TU.one 28 z_F rfl rfl (V1.t (V1.indexAddrA ty_195 sz_79 rfl rfl zw zw) ?_)
   refine TU.one 29 z_F rfl rfl (T1.storeE (o := 0 + (16 + j) * 1) (cells := (WW.take (16 + j)).map w64 ++ List.replicate (80 - (16 + j)) (.int .u64 0)) (cells' := (WW.take (16 + j + 1)).map w64 ++ List.replicate (80 - (16 + j + 1)) (.int .u64 0)) rfl (congrArg w64 hWi.symm) sz_79 rfl (by rw [show 0 + (16 + j) * 1 - 0 = 16 + j from by omega]; exact fill_set 0 hWl zw) z_H (Nat.zero_le _) (by rw [List.length_append, List.length_map, List.length_take, List.length_replicate]; omega) ?_)
   refine TU.done z_F ?_
   refine T.region (zq1 (V1.add rfl rfl (wrap_i64 _ zw zw)) ?_)
   exact ⟨16 + j + 1, _, _, z_N, (.cons rfl .nil), (.cons rfl (.cons rfl (.cons rfl .nil))), z_B, ⟨rfl, by omega⟩⟩
 ·
  obtain rfl : i = 80 := by omega
  refine zs ?_
  refine T.cond_f rfl (zs ?_)
  refine z0 (V1.nilCheck rfl) ?_
  refine z0 (V1.fieldAddr fl_190_1 rfl) ?_
  refine z0 (V1.loadN (vs := [w64 st.a, w64 st.b, w64 st.c, w64 st.d, w64 st.e, w64 st.f, w64 st.g, w64 st.h]) one_188 sz_188 rfl (RdN.sub (o := 2) (k := 8) (cells := [s, w64 n, w64 st.a, w64 st.b, w64 st.c, w64 st.d, w64 st.e, w64 st.f, w64 st.g, w64 st.h]) z_A) rfl) ?_
  refine zc (T1.allocN 8 zr_188 rfl (fun b10 => ?_))
  refine zc (T1.storeN rfl rfl sz_188 (ones rfl) z_H zr zr ?_)
  refine zs ?_
  refine zc (T1.call0 has_128 rfl (fun w hs => table_any w) (fun v hv => ?_))
  subst hv
  refine z1 ?_
  refine T.block (T.loopL (σ := Nat) (l0 := [(0, _), (4, _), (10, _), (86, _)]) (fun x => [(87, .int .i64 (x : Nat))]) (fun x L => L = ⟨b10, 0, [w64 (rnds T512 WW st (x)).a, w64 (rnds T512 WW st (x)).b, w64 (rnds T512 WW st (x)).c, w64 (rnds T512 WW st (x)).d, w64 (rnds T512 WW st (x)).e, w64 (rnds T512 WW st (x)).f, w64 (rnds T512 WW st (x)).g, w64 (rnds T512 WW st (x)).h], 8⟩ :: ⟨b4, 0, (WW.take (80)).map w64 ++ List.replicate (80 - (80)) (.int .u64 0), 80⟩ :: ⟨bh, 0, [s, w64 n, w64 st.a, w64 st.b, w64 st.c, w64 st.d, w64 st.e, w64 st.f, w64 st.g, w64 st.h], 10⟩ :: ⟨bp, op, l.map byteV, size⟩ :: G ∧ x ≤ 80) (fun x => 80 - x) 0 (.cons rfl .nil) zT z_B (⟨rfl, Nat.zero_le _⟩) ?_)
  rintro i e_ L ⟨rfl, hi⟩
  refine zs ?_
  refine zc (T1.ltI_split rfl rfl (fun h15_0 => ?_) (fun h15_0 => ?_))
  ·
   refine zs ?_
   refine T.cond_t rfl (zs ?_)
   refine zq1 (V1.indexA ty_195 sz_79 rfl rfl zw zw (fun w => run_part1 one_79 (show tableV.toArray[i * 1]? = some (w64 (Sh.table.getD i 0)) from tableA zw) w)) ?_
   refine T.seq (T.drawDet' mixed z_F ?_)
   refine zd 0 (zO 10 zZ) (V1.indexAddrA ty_188 sz_79 rfl rfl ze ze) ?_
   refine Det.cons 1 (zN 91 0 rfl zZ) (fun e_ => .inl ⟨rfl, V1.t (V1.load1 one_79 rfl (.own z_A zr)) ⟨rfl, rfl⟩⟩) ?_
   refine zd 2 (zO 10 zZ) (V1.indexAddrA ty_188 sz_79 rfl rfl ze ze) ?_
   refine Det.cons 3 (zN 93 2 rfl zZ) (fun e_ => .inl ⟨rfl, V1.t (V1.load1 one_79 rfl (.own z_A zr)) ⟨rfl, rfl⟩⟩) ?_
   refine Det.cons 4 (v := w64 (rotr ((rnds T512 WW st i).e) 14)) (zN 94 3 rfl zZ) (fun e_ => .inl ⟨rfl, ?_⟩) ?_
   ·
    refine T1.call0 has_132 rfl (fun w hs => RotL64_any _ _ w) (fun v hv => ?_)
    rw [RL64_14] at hv
    subst hv
    exact ⟨rfl, rfl⟩
   refine zd 5 (zO 10 zZ) (V1.indexAddrA ty_188 sz_79 rfl rfl ze ze) ?_
   refine Det.cons 6 (zN 96 5 rfl zZ) (fun e_ => .inl ⟨rfl, V1.t (V1.load1 one_79 rfl (.own z_A zr)) ⟨rfl, rfl⟩⟩) ?_
   refine Det.cons 7 (v := w64 (rotr ((rnds T512 WW st i).e) 18)) (zN 97 6 rfl zZ) (fun e_ => .inl ⟨rfl, ?_⟩) ?_
   ·
    refine T1.call0 has_132 rfl (fun w hs => RotL64_any _ _ w) (fun v hv => ?_)
    rw [RL64_18] at hv
    subst hv
    exact ⟨rfl, rfl⟩
   refine zd 8 (zN 95 4 rfl (zN 98 7 rfl zZ)) (V1.xorW u64U rfl rfl) ?_
   refine zd 9 (zO 10 zZ) (V1.indexAddrA ty_188 sz_79 rfl rfl ze ze) ?_
   refine Det.cons 10 (zN 100 9 rfl zZ) (fun e_ => .inl ⟨rfl, V1.t (V1.load1 one_79 rfl (.own z_A zr)) ⟨rfl, rfl⟩⟩) ?_
   refine Det.cons 11 (v := w64 (rotr ((rnds T512 WW st i).e) 41)) (zN 101 10 rfl zZ) (fun e_ => .inl ⟨rfl, ?_⟩) ?_
   ·
    refine T1.call0 has_132 rfl (fun w hs => RotL64_any _ _ w) (fun v hv => ?_)
    rw [RL64_41] at hv
    subst hv
    exact ⟨rfl, rfl⟩
   refine zd 12 (zN 99 8 rfl (zN 102 11 rfl zZ)) (V1.xorW u64U rfl rfl) ?_
   refine zd 13 (zN 92 1 rfl (zN 103 12 rfl zZ)) (V1.addW u64U rfl rfl) ?_
   refine zd 14 (zO 10 zZ) (V1.indexAddrA ty_188 sz_79 rfl rfl ze ze) ?_
   refine Det.cons 15 (zN 105 14 rfl zZ) (fun e_ => .inl ⟨rfl, V1.t (V1.load1 one_79 rfl (.own z_A zr)) ⟨rfl, rfl⟩⟩) ?_
   refine zd 16 (zO 10 zZ) (V1.indexAddrA ty_188 sz_79 rfl rfl ze ze) ?_
   refine Det.cons 17 (zN 107 16 rfl zZ) (fun e_ => .inl ⟨rfl, V1.t (V1.load1 one_79 rfl (.own z_A zr)) ⟨rfl, rfl⟩⟩) ?_
   refine zd 18 (zN 106 15 rfl (zN 108 17 rfl zZ)) (V1.andW u64U rfl rfl) ?_
   refine zd 19 (zO 10 zZ) (V1.indexAddrA ty_188 sz_79 rfl rfl ze ze) ?_
   refine Det.cons 20 (zN 110 19 rfl zZ) (fun e_ => .inl ⟨rfl, V1.t (V1.load1 one_79 rfl (.own z_A zr)) ⟨rfl, rfl⟩⟩) ?_
   refine zd 21 (zN 111 20 rfl zZ) (V1.complW u64U rfl) ?_
   refine zd 22 (zO 10 zZ) (V1.indexAddrA ty_188 sz_79 rfl rfl ze ze) ?_
   refine Det.cons 23 (zN 113 22 rfl zZ) (fun e_ => .inl ⟨rfl, V1.t (V1.load1 one_79 rfl (.own z_A zr)) ⟨rfl, rfl⟩⟩) ?_
   refine zd 24 (zN 112 21 rfl (zN 114 23 rfl zZ)) (V1.andW u64U rfl rfl) ?_
   refine zd 25 (zN 109 18 rfl (zN 115 24 rfl zZ)) (V1.xorW u64U rfl rfl) ?_
   refine zd 26 (zN 104 13 rfl (zN 116 25 rfl zZ)) (V1.addW u64U rfl rfl) ?_
   refine zd 27 (zO 12 zZ) (V1.move' z_C) ?_
   refine zd 28 (zN 117 26 rfl (zN 118 27 rfl zZ)) (V1.addW u64U rfl rfl) ?_
   refine zd 29 (zO 11 zZ) (V1.move' z_C) ?_
   refine zd 30 (zO 4 (zN 120 29 rfl zZ)) (V1.indexAddrA ty_195 sz_79 rfl rfl zw zw) ?_
   refine Det.cons 31 (zN 121 30 rfl zZ) (fun e_ => .inl ⟨rfl, V1.t (V1.load1 one_79 rfl (show Rd _ _ ⟨b4, 0 + i * 1, none⟩ (w64 (WW.getD i 0)) from by rw [Nat.mul_one]; exact Rd.at z_A (fill_get 0 zw zw))) ⟨rfl, rfl⟩⟩) ?_
   refine zd 32 (zN 119 28 rfl (zN 122 31 rfl zZ)) (V1.addW u64U rfl rfl) ?_
   refine zd 33 (zN 123 32 rfl zZ) (V1.assign' z_C) ?_
   refine Det.nil 34 (zQ 0 (zQ 4 (zQ 10 (zR 13 33 rfl (zQ 86 (zQ 87 zW)))))) (fun e_ => ?_)
   refine T.seq (T.drawDet' mixed z_F ?_)
   refine zd 0 (zO 10 zZ) (V1.indexAddrA ty_188 sz_79 rfl rfl ze ze) ?_
   refine Det.cons 1 (zN 124 0 rfl zZ) (fun e_ => .inl ⟨rfl, V1.t (V1.load1 one_79 rfl (.own z_A zr)) ⟨rfl, rfl⟩⟩) ?_
   refine Det.cons 2 (v := w64 (rotr ((rnds T512 WW st i).a) 28)) (zN 125 1 rfl zZ) (fun e_ => .inl ⟨rfl, ?_⟩) ?_
   ·
    refine T1.call0 has_132 rfl (fun w hs => RotL64_any _ _ w) (fun v hv => ?_)
    rw [RL64_28] at hv
    subst hv
    exact ⟨rfl, rfl⟩
   refine zd 3 (zO 10 zZ) (V1.indexAddrA ty_188 sz_79 rfl rfl ze ze) ?_
   refine Det.cons 4 (zN 127 3 rfl zZ) (fun e_ => .inl ⟨rfl, V1.t (V1.load1 one_79 rfl (.own z_A zr)) ⟨rfl, rfl⟩⟩) ?_
   refine Det.cons 5 (v := w64 (rotr ((rnds T512 WW st i).a) 34)) (zN 128 4 rfl zZ) (fun e_ => .inl ⟨rfl, ?_⟩) ?_
   ·
    refine T1.call0 has_132 rfl (fun w hs => RotL64_any _ _ w) (fun v hv => ?_)
    rw [RL64_34] at hv
    subst hv
    exact ⟨rfl, rfl⟩
   refine zd 6 (zN 126 2 rfl (zN 129 5 rfl zZ)) (V1.xorW u64U rfl rfl) ?_
   refine zd 7 (zO 10 zZ) (V1.indexAddrA ty_188 sz_79 rfl rfl ze ze) ?_
   refine Det.cons 8 (zN 131 7 rfl zZ) (fun e_ => .inl ⟨rfl, V1.t (V1.load1 one_79 rfl (.own z_A zr)) ⟨rfl, rfl⟩⟩) ?_
   refine Det.cons 9 (v := w64 (rotr ((rnds T512 WW st i).a) 39)) (zN 132 8 rfl zZ) (fun e_ => .inl ⟨rfl, ?_⟩) ?_
   ·
    refine T1.call0 has_132 rfl (fun w hs => RotL64_any _ _ w) (fun v hv => ?_)
    rw [RL64_39] at hv
    subst hv
    exact ⟨rfl, rfl⟩
   refine zd 10 (zN 130 6 rfl (zN 133 9 rfl zZ)) (V1.xorW u64U rfl rfl) ?_
   refine zd 11 (zO 10 zZ) (V1.indexAddrA ty_188 sz_79 rfl rfl ze ze) ?_
   refine Det.cons 12 (zN 135 11 rfl zZ) (fun e_ => .inl ⟨rfl, V1.t (V1.load1 one_79 rfl (.own z_A zr)) ⟨rfl, rfl⟩⟩) ?_
   refine zd 13 (zO 10 zZ) (V1.indexAddrA ty_188 sz_79 rfl rfl ze ze) ?_
   refine Det.cons 14 (zN 137 13 rfl zZ) (fun e_ => .inl ⟨rfl, V1.t (V1.load1 one_79 rfl (.own z_A zr)) ⟨rfl, rfl⟩⟩) ?_
   refine zd 15 (zN 136 12 rfl (zN 138 14 rfl zZ)) (V1.andW u64U rfl rfl) ?_
   refine zd 16 (zO 10 zZ) (V1.indexAddrA ty_188 sz_79 rfl rfl ze ze) ?_
   refine Det.cons 17 (zN 140 16 rfl zZ) (fun e_ => .inl ⟨rfl, V1.t (V1.load1 one_79 rfl (.own z_A zr)) ⟨rfl, rfl⟩⟩) ?_
   refine zd 18 (zO 10 zZ) (V1.indexAddrA ty_188 sz_79 rfl rfl ze ze) ?_
   refine Det.cons 19 (zN 142 18 rfl zZ) (fun e_ => .inl ⟨rfl, V1.t (V1.load1 one_79 rfl (.own z_A zr)) ⟨rfl, rfl⟩⟩) ?_
   refine zd 20 (zN 141 17 rfl (zN 143 19 rfl zZ)) (V1.andW u64U rfl rfl) ?_
   refine zd 21 (zN 139 15 rfl (zN 144 20 rfl zZ)) (V1.xorW u64U rfl rfl) ?_
   refine zd 22 (zO 10 zZ) (V1.indexAddrA ty_188 sz_79 rfl rfl ze ze) ?_
   refine Det.cons 23 (zN 146 22 rfl zZ) (fun e_ => .inl ⟨rfl, V1.t (V1.load1 one_79 rfl (.own z_A zr)) ⟨rfl, rfl⟩⟩) ?_
   refine zd 24 (zO 10 zZ) (V1.indexAddrA ty_188 sz_79 rfl rfl ze ze) ?_
   refine Det.cons 25 (zN 148 24 rfl zZ) (fun e_ => .inl ⟨rfl, V1.t (V1.load1 one_79 rfl (.own z_A zr)) ⟨rfl, rfl⟩⟩) ?_
   refine zd 26 (zN 147 23 rfl (zN 149 25 rfl zZ)) (V1.andW u64U rfl rfl) ?_
   refine zd 27 (zN 145 21 rfl (zN 150 26 rfl zZ)) (V1.xorW u64U rfl rfl) ?_
   refine zd 28 (zN 134 10 rfl (zN 151 27 rfl zZ)) (V1.addW u64U rfl rfl) ?_
   refine zd 29 (zN 152 28 rfl zZ) (V1.assign' z_C) ?_
   refine Det.nil 30 (zQ 0 (zQ 4 (zQ 10 (zQ 13 (zR 14 29 rfl (zQ 86 (zQ 87 zW))))))) (fun e_ => ?_)
   refine zs ?_
   refine z0 (V1.addW u64U rfl rfl) ?_
   refine z0 (V1.indexAddrA ty_188 sz_79 rfl rfl ze ze) ?_
   refine z0 (V1.load1 one_79 rfl (.own z_A zr)) ?_
   refine z0 (V1.indexAddrA ty_188 sz_79 rfl rfl ze ze) ?_
   refine z0 (V1.load1 one_79 rfl (.own z_A zr)) ?_
   refine z0 (V1.indexAddrA ty_188 sz_79 rfl rfl ze ze) ?_
   refine z0 (V1.load1 one_79 rfl (.own z_A zr)) ?_
   refine z0 (V1.indexAddrA ty_188 sz_79 rfl rfl ze ze) ?_
   refine zq (V1.load1 one_79 rfl (.own z_A zr)) ?_
   refine z0 (V1.addW u64U rfl rfl) ?_
   refine z0 (V1.indexAddrA ty_188 sz_79 rfl rfl ze ze) ?_
   refine z0 (V1.load1 one_79 rfl (.own z_A zr)) ?_
   refine z0 (V1.indexAddrA ty_188 sz_79 rfl rfl ze ze) ?_
   refine z0 (V1.load1 one_79 rfl (.own z_A zr)) ?_
   refine z0 (V1.indexAddrA ty_188 sz_79 rfl rfl ze ze) ?_
   refine z0 (V1.load1 one_79 rfl (.own z_A zr)) ?_
   refine z0 (V1.buildFA ty_188 sz_79 zr_188 (.one rfl z_C rfl (.one rfl z_C rfl (.one rfl z_C rfl (.one rfl z_C rfl (.one rfl z_C rfl (.one rfl z_C rfl (.one rfl z_C rfl (.one rfl z_C rfl .nil)))))))) z_I) ?_
   refine zc (T1.storeN rfl rfl sz_188 (ones rfl) z_H zr zr ?_)
   refine TL.nil ?_
   refine T.live (l := [(0, _), (4, _), (10, _), (86, _), (87, _)]) zT (fun e_ => ?_)
   refine T.region (zq1 (V1.add rfl rfl (wrap_i64 _ zw zw)) ?_)
   exact ⟨i + 1, _, _, z_N, (.cons rfl .nil), (.cons rfl (.cons rfl (.cons rfl (.cons rfl .nil)))), z_B, ⟨rfl, by omega⟩⟩
  ·
   obtain rfl : i = 80 := by omega
   refine zs ?_
   refine T.cond_f rfl (zs ?_)
   refine zq1 (V1.loadN (vs := (stL (rnds T512 WW st 80)).map w64) one_188 sz_188 rfl (RdN.whole z_A) rfl) ?_
   refine T.block (T.loopL (σ := Nat) (l0 := [(0, _), (174, _)]) (fun x => [(175, .int .i64 (x : Nat))]) (fun x L => L = ⟨bh, 0, s :: w64 n :: (((stL (addR st (rnds T512 WW st 80))).map w64).take x ++ ((stL st).map w64).drop x), 10⟩ :: ⟨bp, op, l.map byteV, size⟩ :: G ∧ x ≤ 8) (fun x => 8 - x) 0 (.cons rfl .nil) zT z_B (⟨rfl, Nat.zero_le _⟩) ?_)
   rintro i e_ L ⟨rfl, hi⟩
   refine zs ?_
   refine zc (T1.ltI_split rfl rfl (fun h22_0 => ?_) (fun h22_0 => ?_))
   ·
    refine zs ?_
    refine T.cond_t rfl (zs ?_)
    refine zq1 (V1.indexA ty_188 sz_79 rfl rfl zw zw (fun w => run_part1 one_79 (show ((stL (rnds T512 WW st 80)).map w64).toArray[i * 1]? = some (w64 ((stL (rnds T512 WW st 80)).getD i 0)) from stL_arr64 zw) w)) ?_
    refine T.drawTail 10 mixed z_F zr z_F rfl ?_
    refine zd 0 (zO 0 zZ) (V1.move' z_C) ?_
    refine zd 1 (zO 15 zZ) (V1.move' z_C) ?_
    refine zd 2 (zN 179 0 rfl zZ) (V1.nilCheck rfl) ?_
    refine zd 3 (zN 181 2 rfl zZ) (V1.fieldAddr fl_190_1 rfl) ?_
    refine zd 4 (zN 180 1 rfl (zN 182 3 rfl zZ)) (V1.indexAddrA ty_188 sz_79 rfl rfl zw zw) ?_
    refine Det.cons 5 (zN 183 4 rfl zZ) (fun e_ => .inl ⟨rfl, V1.t (V1.load1 one_79 rfl (show Rd _ _ ⟨bh, 0 + 2 + i * 1, none⟩ (w64 ((stL st).getD i 0)) from by rw [show 0 + 2 + i * 1 = 0 + (i + 2) from by omega]; exact Rd.at z_A (show (s :: w64 n :: (((stL (addR st (rnds T512 WW st 80))).map w64).take i ++ ((stL st).map w64).drop i))[i + 2]? = some (w64 ((stL st).getD i 0)) from (mix_get (by simp [stL]) (by simp [stL]; omega)).trans (stL_map64 zw)))) ⟨rfl, rfl⟩⟩) ?_
    refine zd 6 (zO 16 zZ) (V1.move' z_C) ?_
    refine zd 7 (zN 184 5 rfl (zN 185 6 rfl zZ)) (V1.addW u64U rfl rfl) ?_
    refine zd 8 (zN 179 0 rfl zZ) (V1.nilCheck rfl) ?_
    refine zd 9 (zN 187 8 rfl zZ) (V1.fieldAddr fl_190_1 rfl) ?_
    refine Det.nil 10 (zQ 0 (zQ 174 (zQ 175 (zR 180 1 rfl (zR 186 7 rfl (zR 188 9 rfl zW)))))) (fun e_ => ?_)
    refine (show TU _ _ _ 2 _ _ _ from ?_)
    refine TU.one 10 z_F rfl rfl (V1.t (V1.indexAddrA ty_188 sz_79 rfl rfl zw zw) ?_)
    refine TU.one 11 z_F rfl rfl (T1.storeE (o := 0 + 2 + i * 1) (cells := s :: w64 n :: (((stL (addR st (rnds T512 WW st 80))).map w64).take i ++ ((stL st).map w64).drop i)) (cells' := s :: w64 n :: (((stL (addR st (rnds T512 WW st 80))).map w64).take (i + 1) ++ ((stL st).map w64).drop (i + 1))) rfl (congrArg w64 (addR_get st (rnds T512 WW st 80) i).symm) sz_79 rfl (by rw [show 0 + 2 + i * 1 - 0 = i + 2 from by omega]; show s :: w64 n :: List.set _ i _ = _; rw [mix_set (by simp [stL]) (stL_map64 zw)]) z_H (Nat.zero_le _) (by simp only [List.length_cons, List.length_append, List.length_take, List.length_drop, List.length_map]; simp only [stL, List.length_cons, List.length_nil]; omega) ?_)
    refine TU.done z_F ?_
    refine T.region (zq1 (V1.add rfl rfl (wrap_i64 _ zw zw)) ?_)
    exact ⟨i + 1, _, _, z_N, (.cons rfl .nil), (.cons rfl (.cons rfl .nil)), z_B, ⟨rfl, by omega⟩⟩
   ·
    obtain rfl : i = 8 := by omega
    rw [mix_end64]
    refine zs ?_
    refine T.cond_f rfl (T.exit ?_)
    exact ⟨_, ⟨bh, 0, [s, w64 n, w64 (addR st (rnds T512 WW st 80)).a, w64 (addR st (rnds T512 WW st 80)).b, w64 (addR st (rnds T512 WW st 80)).c, w64 (addR st (rnds T512 WW st 80)).d, w64 (addR st (rnds T512 WW st 80)).e, w64 (addR st (rnds T512 WW st 80)).f, w64 (addR st (rnds T512 WW st 80)).g, w64 (addR st (rnds T512 WW st 80)).h], 10⟩ :: ⟨bp, op, l.map byteV, size⟩ :: G, _, .nil, z_B, [⟨bh, 0, [s, w64 n, w64 (addR st (rnds T512 WW st 80)).a, w64 (addR st (rnds T512 WW st 80)).b, w64 (addR st (rnds T512 WW st 80)).c, w64 (addR st (rnds T512 WW st 80)).d, w64 (addR st (rnds T512 WW st 80)).e, w64 (addR st (rnds T512 WW st 80)).f, w64 (addR st (rnds T512 WW st 80)).g, w64 (addR st (rnds T512 WW st 80)).h], 10⟩, ⟨bp, op, l.map byteV, size⟩], rfl, by rw [hB]⟩
theorem blockC512 : BlockC T512 w64 125 := fun w0 bh bp op size cap s n st l hl hcap => block512_any w0 bh bp op size cap s n st l hl hcap
end Go.Proofs.YtfjedhmffccgnaaGreatDoor.S
namespace Go.Proofs.YtfjedhmffccgnaaGreatDoor.S
set_option maxRecDepth 100000
set_option maxHeartbeats 2000000
open Go.RowKit
open Sh
theorem state64 {st : R8 64} {i : Nat} (h : i < 8) : ((stL st).map w64)[i]? = some (w64 ((stL st).getD i 0)) := by
 rw [List.getElem?_map, List.getD_eq_getElem?_getD, List.getElem?_eq_getElem (show i < (stL st).length from h)]; rfl
theorem outbyte64 {st : R8 64} {i : Nat} (h : i < 64) : ((((stL st).getD (i / 8) 0) >>> (8 * (7 - i % 8))).setWidth 8).toNat = ((outB st).getD i 0).toNat := by
 rw [getD_of (outB_get ze h), byte_shift]
theorem feed512 (w0 : World) (bh : Nat) (s pv : Value) (n : BitVec 64) (st : R8 64) (r p : List UInt8) (Lr Ps : List Blk) (hs : Sl s (r.map byteV) 1 Lr) (hp : PartR w0 Ps pv p) (hr : r.length < 2 * 64) (hpl : p.length ≤ 200000000000000) : FnX P 110 [.pointer (some ⟨bh, 0, none⟩), .int .i64 128, pv, .func (.func 125) #[.pointer (some ⟨bh, 0, none⟩)] #[]] w0 [] (⟨bh, 0, s :: w64 n :: (stL st).map w64, 10⟩ :: (Lr ++ Ps))
 (fun _ Y => ∃ s' Lr', Sl s' ((absorb T512 st (r ++ p)).2.map byteV) 1 Lr' ∧ Y = ⟨bh, 0, s' :: w64 (n + BitVec.ofInt 64 (p.length : Int)) :: (stL (absorb T512 st (r ++ p)).1).map w64, 10⟩ :: (Lr' ++ Ps)) :=
 feed_any T512 w64 125 has_125 ze ze blockC512 w0 bh s pv n st r p Lr Ps hs hp hr hpl
theorem New512_any (w : World) : Fn P 98 [] w [] (fun v Y => ∃ b, v = .pointer (some ⟨b, 0, none⟩) ∧ HB T512 w64 b [] Y) := by
 refine Fn.of 4 [.tmp 0] Go.Proofs.Tryz.func98 rfl rfl rfl rfl ?_
 refine zs ?_
 refine z0 (V1.buildFA ty_188 sz_79 zr_188 (.one rfl z_C rfl (.one rfl z_C rfl (.one rfl z_C rfl (.one rfl z_C rfl (.one rfl z_C rfl (.one rfl z_C rfl (.one rfl z_C rfl (.one rfl z_C rfl .nil)))))))) z_I) ?_
 refine z0 (V1.buildF pl_190 zr_190 (.many rfl z_C rfl .nil) z_I) ?_
 refine zc (T1.boxN 10 rfl rfl (fun b3 => zs ?_))
 exact ⟨_, [⟨b3, 0, .slice none 0 0 :: w64 0 :: (stL (absorb T512 T512.init []).1).map w64, 10⟩], _, .cons (.tmp z_C) .nil, z_B, b3, rfl, _, [], rfl, Sl.nil⟩
theorem Write512_any (w0 : World) (bh : Nat) (v : Value) (l : List UInt8) (ps : List (List UInt8)) (X Ps : List Blk) (hb : HB T512 w64 bh l X) (hp : PartsR w0 Ps v ps) (hlen : ∀ p ∈ ps, p.length ≤ 200000000000000) (hpn : ps.length < 9223372036854775807) : FnX P 99 [.pointer (some ⟨bh, 0, none⟩), v] w0 [] (X ++ Ps) (fun _ Y => ∃ X', HB T512 w64 bh (l ++ ps.flatten) X' ∧ Y = X' ++ Ps) := by
 obtain ⟨s0, Lr0, rfl, hs0⟩ := hb
 obtain ⟨pa, pc, rfl⟩ := hp.form
 refine FnX.of 20 [] Go.Proofs.Tryz.func99 rfl rfl rfl rfl (fun G => ?_)
 simp only [List.cons_append, List.append_assoc]
 refine zs ?_
 refine zq1 (V1.lenSl ty_115 rfl) ?_
 refine T.block (T.loopL (σ := Nat × Value × List Blk × List UInt8) (l0 := [(0, _), (6, _), (7, _)]) (fun x => [(8, .int .i64 (x.1 : Nat))]) (fun x L => L = ⟨bh, 0, x.2.1 :: w64 (BitVec.ofNat 64 (x.2.2.2).length) :: (stL (absorb T512 T512.init (x.2.2.2)).1).map w64, 10⟩ :: (x.2.2.1 ++ (Ps ++ G)) ∧ Sl x.2.1 ((absorb T512 T512.init x.2.2.2).2.map byteV) 1 x.2.2.1 ∧ x.2.2.2 = l ++ (ps.take x.1).flatten ∧ x.1 ≤ ps.length) (fun x => ps.length - x.1) (0, s0, Lr0, l) (.cons rfl .nil) zT z_B (⟨rfl, hs0, by simp only [List.take_zero, List.flatten_nil, List.append_nil], Nat.zero_le _⟩) ?_)
 rintro ⟨q, s, Lr, lk⟩ e_ L ⟨rfl, hsl, hlk, hq⟩
 simp only at hsl hq hlk
 refine zs ?_
 refine zc (T1.ltI_split rfl rfl (fun h1_0 => ?_) (fun h1_0 => ?_))
 ·
  simp only at h1_0
  obtain ⟨ba, oa, sv, p, rfl, hpk, hpr, hrd⟩ := hp.at (P := P) (k := q) zw
  obtain ⟨st_, hst_⟩ : ∃ z, z = (absorb T512 T512.init lk).1 := ⟨_, rfl⟩
  obtain ⟨r_, hr_⟩ : ∃ z, z = (absorb T512 T512.init lk).2 := ⟨_, rfl⟩
  have hrl : r_.length < 2 * 64 := by rw [hr_]; exact (absorb_rest T512 ze _ _ _ (Nat.le_refl _)).1
  rw [← hr_] at hsl
  rw [← hst_]
  refine zs ?_
  refine T.cond_t rfl (zs ?_)
  refine z0 (V1.indexAddrS ty_115 sz_44 rfl rfl zw zw) ?_
  refine zq (V1.load1 one_44 rfl (hrd _ rfl rfl _ (by intro B hB; simp only [List.mem_cons, List.mem_append]; simp [hB]))) ?_
  refine z0 (V1.nilCheck rfl) ?_
  refine zq (V1.fieldAddr fl_190_0 rfl) ?_
  refine z0 (V1.makeFunc1 z_C) ?_
  refine zc (T1.callX («as» := [.pointer (some ⟨bh, 0, none⟩), .int .i64 128, sv, .func (.func 125) #[.pointer (some ⟨bh, 0, none⟩)] #[]]) has_110 rfl (feed512 _ bh s sv (BitVec.ofNat 64 lk.length) st_ r_ p Lr Ps hsl hpr hrl (hlen p (List.mem_of_getElem? hpk))) z_B (fun v Y hY => ?_))
  obtain ⟨s', Lr', hsl', rfl⟩ := hY
  rw [hst_, hr_] at hsl' ⊢
  rw [← absorb_append T512 ze _ _ _ _ (Nat.le_refl _)] at hsl'
  rw [← absorb_append T512 ze _ _ _ _ (Nat.le_refl _), cnt_add]
  simp only [List.cons_append, List.append_assoc]
  refine zs ?_
  refine zq1 (V1.add rfl rfl (wrap_i64 _ zw zw)) ?_
  exact ⟨(q + 1, s', Lr', lk ++ p), _, _, z_N, (.cons rfl .nil), (.cons rfl (.cons rfl (.cons rfl .nil))), z_B, ⟨rfl, hsl', by simp only; rw [hlk, take_flat hpk, List.append_assoc], by simp only; omega⟩⟩
 ·
  simp only at h1_0
  obtain rfl : q = ps.length := by omega
  refine zs ?_
  refine T.cond_f rfl (T.exit ?_)
  rw [List.take_of_length_le (Nat.le_refl _)] at hlk
  subst hlk
  exact ⟨_, ⟨bh, 0, s :: w64 (BitVec.ofNat 64 (l ++ ps.flatten).length) :: (stL (absorb T512 T512.init (l ++ ps.flatten)).1).map w64, 10⟩ :: (Lr ++ (Ps ++ G)), _, .nil, z_B, ⟨bh, 0, s :: w64 (BitVec.ofNat 64 (l ++ ps.flatten).length) :: (stL (absorb T512 T512.init (l ++ ps.flatten)).1).map w64, 10⟩ :: (Lr ++ Ps), by simp only [List.cons_append, List.append_assoc], ⟨bh, 0, s :: w64 (BitVec.ofNat 64 (l ++ ps.flatten).length) :: (stL (absorb T512 T512.init (l ++ ps.flatten)).1).map w64, 10⟩ :: Lr, ⟨s, Lr, rfl, hsl⟩, rfl⟩
theorem HSum512_any (w0 : World) (bh : Nat) (l : List UInt8) (X : List Blk) (hb : HB T512 w64 bh l X) (hl : l.length < 4611686018427387904) : FnX P 100 [.pointer (some ⟨bh, 0, none⟩)] w0 [] X (fun v Y => v = .agg ((sha T512 l).map byteV).toArray ∧ Y = X) := by
 obtain ⟨s, Lr, rfl, hs⟩ := hb
 have hln : (BitVec.ofNat 64 l.length).toNat = l.length := by rw [BitVec.toNat_ofNat]; exact Nat.mod_eq_of_lt zw
 have hzm := zmax_lt (w := 64) l.length ze
 have hrl := (absorb_rest T512 ze _ T512.init l (Nat.le_refl _)).1
 have hlr := hs
 refine FnX.of 52 [.cell 2 74] Go.Proofs.Tryz.func100 rfl rfl rfl rfl (fun G => ?_)
 rw [List.cons_append]
 refine zs ?_
 refine zc (T1.allocN 64 zr_74 rfl (fun b2 => ?_))
 refine TL.nil ?_
 refine T.seq (T.drawK (fun L_ => Find L_ ⟨bh, 0, s :: w64 (BitVec.ofNat 64 l.length) :: (stL (absorb T512 T512.init (l)).1).map w64, 10⟩) mixed z_A ?_)
 refine zk 1 rfl (fun k1_ => V1.move' z_C) ?_
 refine zk 2 rfl (fun k1_ => V1.nilCheck rfl) ?_
 refine zk 3 rfl (fun k1_ => V1.fieldAddr fl_190_0 rfl) ?_
 refine zk 4 rfl (fun k1_ => V1.fieldAddr fl_171_0 rfl) ?_
 refine zk 5 rfl (fun k1_ => V1.load1 one_44 rfl (.own z_A zr)) ?_
 refine zk 7 rfl (fun k1_ => V1.move' z_C) ?_
 refine zk 8 rfl (fun k1_ => V1.nilCheck rfl) ?_
 refine zk 9 rfl (fun k1_ => V1.fieldAddr fl_190_0 rfl) ?_
 refine zk 10 rfl (fun k1_ => V1.fieldAddr fl_171_1 rfl) ?_
 refine zk 11 rfl (fun k1_ => V1.load1 one_79 rfl (.own z_A zr)) ?_
 refine zk 13 rfl (fun k1_ => V1.move' z_C) ?_
 refine zk 14 rfl (fun k1_ => V1.nilCheck rfl) ?_
 refine zk 15 rfl (fun k1_ => V1.fieldAddr fl_190_1 rfl) ?_
 refine zk 16 rfl (fun k1_ => V1.loadN (vs := (stL (absorb T512 T512.init l).1).map w64) one_188 sz_188 rfl (RdN.sub (o := 2) (k := 8) (cells := s :: w64 (BitVec.ofNat 64 l.length) :: (stL (absorb T512 T512.init l).1).map w64) z_A) rfl) ?_
 refine zo 0 rfl rfl (T1.buildSl1 (os := []) ty_44 sz_5 zr_5 ze rfl .nil rfl (ones rfl) (fun b6 => ?_))
 refine ⟨z_A, zo 6 rfl rfl (T1.append ty_44 kd_44 sz_5 by_5 zr_5 rfl ze ze rfl rfl (Sl.mk (b := b6) (xs := []) (len := 0) (cap := 0) (size := 0) rfl (Nat.le_refl _) (Nat.le_refl _)) ((PartR.own (w0 := w0) (Ps := Lr) hs (fun _ h => h)).src _ rfl rfl _ (by intro B hB; simp only [List.mem_cons, List.mem_append]; simp [hB])) (one_bytes _) 128 (by simp only [List.length_map, List.length_nil]; omega) zw z_E (fun s1 Ls1 hs1 => ?_))⟩
 rw [List.nil_append] at hs1
 refine ⟨z_A, zk 12 rfl (fun k1_ => V1.buildF pl_171 zr_171 (.one rfl z_C hs1.one (.one rfl z_C rfl .nil)) z_I) ?_⟩
 refine zk 17 rfl (fun k1_ => V1.buildF pl_190 zr_190 (.many rfl z_C rfl (.many rfl z_C rfl .nil)) z_I) ?_
 refine zo 18 rfl rfl (T1.boxN 10 rfl rfl (fun b24 => ?_))
 refine ⟨z_A, zk 19 rfl (fun k1_ => V1.assign' z_C) ?_⟩
 refine TD.done z_F ?_
 refine T.seq (T.live (l := [(0, _), (2, _), (3, _)]) zT (fun e_ => ?_))
 refine zs ?_
 refine z0 (V1.nilCheck rfl) ?_
 refine z0 (V1.fieldAddr fl_190_0 rfl) ?_
 refine zc (T1.callX has_112 rfl (padding64_any _ bh s (BitVec.ofNat 64 l.length) _ (by rw [hln]; omega)) z_B (fun v Y hY => ?_))
 obtain ⟨Lp, hlp, rfl⟩ := hY
 rw [hln] at hlp
 simp only [List.append_assoc, List.cons_append, List.nil_append]
 refine zc (T1.buildSl1 (os := [.tmp 29]) ty_115 sz_44 zr_44 ze rfl (.cons z_C .nil) rfl (by intro u hu; obtain rfl := List.mem_singleton.1 hu; exact hlp.one) (fun b30 => ?_))
 refine zc (T1.callX has_99 rfl (Write512_any _ b24 _ l [pad 64 l.length] (⟨b24, 0, s1 :: w64 (BitVec.ofNat 64 l.length) :: (stL (absorb T512 T512.init (l)).1).map w64, 10⟩ :: Ls1) (⟨b30, 0, [v], 1⟩ :: Lp) ⟨s1, Ls1, rfl, hs1⟩ (PartsR.ones (svs := [v]) (size := 1) (by simp) rfl (one_part (PartR.own hlp (fun _ h => List.mem_cons_of_mem _ h)))) (one_len (by rw [pad_length]; omega)) (show 1 < 9223372036854775807 by decide)) z_B (fun v2 Y hY => ?_))
 obtain ⟨X', ⟨s', Lr', rfl, hs'⟩, rfl⟩ := hY
 obtain ⟨st, hst⟩ : ∃ z, z = (absorb T512 T512.init (l ++ [pad 64 l.length].flatten)).1 := ⟨_, rfl⟩
 rw [← hst]
 simp only [List.append_assoc, List.cons_append, List.nil_append]
 refine zs ?_
 refine zc (T1.allocN 64 zr_74 rfl (fun b4 => ?_))
 refine TL.nil ?_
 refine T.seq (T.seq (T.region (z1 ?_)))
 refine T.block (T.loopL (σ := Nat) (l0 := [(2, _), (3, _), (4, _)]) (fun x => [(32, .int .i64 (x : Nat))]) (fun x L => L = ⟨b4, 0, ((outB st).take x).map byteV ++ List.replicate (64 - x) (.int .u8 0), 64⟩ :: ⟨b24, 0, s' :: w64 (BitVec.ofNat 64 (l ++ [pad 64 l.length].flatten).length) :: (stL st).map w64, 10⟩ :: ⟨b2, 0, List.replicate 64 (.int .u8 0), 64⟩ :: ⟨bh, 0, s :: w64 (BitVec.ofNat 64 l.length) :: (stL (absorb T512 T512.init (l)).1).map w64, 10⟩ :: (Lr ++ G) ∧ x ≤ 64) (fun x => 64 - x) 0 (.cons rfl .nil) zT z_B (⟨rfl, Nat.zero_le _⟩) ?_)
 rintro i e_ L ⟨rfl, hi⟩
 refine zs ?_
 refine zc (T1.ltI_split rfl rfl (fun h5_0 => ?_) (fun h5_0 => ?_))
 ·
  refine zs ?_
  refine T.cond_t rfl (zs ?_)
  refine z0 (V1.quo (c := ((i / 8 : Nat) : Int)) rfl rfl zw (by rw [show ((i : Int).tdiv 8) = ((i / 8 : Nat) : Int) from tquoN i 8]; exact wrap_i64 _ zw zw)) ?_
  refine z0 (V1.nilCheck rfl) ?_
  refine z0 (V1.fieldAddr fl_190_1 rfl) ?_
  refine z0 (V1.indexAddrA ty_188 sz_79 rfl rfl zw zw) ?_
  refine zq (V1.load1 one_79 rfl (show Rd _ _ ⟨b24, 0 + 2 + (i / 8) * 1, none⟩ (w64 ((stL st).getD (i / 8) 0)) from by rw [show 0 + 2 + (i / 8) * 1 = 0 + (i / 8 + 2) from by omega]; exact Rd.at (cells := s' :: w64 (BitVec.ofNat 64 (l ++ [pad 64 l.length].flatten).length) :: (stL st).map w64) z_A (state64 zw))) ?_
  refine z0 (V1.rem (c := ((i % 8 : Nat) : Int)) rfl rfl zw (tmodN i 8)) ?_
  refine z0 (V1.mul (c := ((8 * (i % 8) : Nat) : Int)) rfl rfl z_J) ?_
  refine z0 (V1.sub (c := ((8 * (7 - i % 8) : Nat) : Int)) rfl rfl z_J) ?_
  refine z0 (V1.shrW u64U rfl rfl) ?_
  refine z0 (V1.convW 8 u8U ty_79 ty_5 rfl) ?_
  refine z0 (V1.indexAddrA ty_74 sz_5 rfl rfl zw zw) ?_
  refine zc (T1.storeE (o := 0 + i * 1) (cells := ((outB st).take i).map byteV ++ List.replicate (64 - i) (.int .u8 0)) (cells' := ((outB st).take (i + 1)).map byteV ++ List.replicate (64 - (i + 1)) (.int .u8 0)) rfl (congrArg (fun z : Nat => Value.int .u8 (z : Int)) (outbyte64 zw)) sz_5 rfl (by rw [show 0 + i * 1 - 0 = i from by omega]; exact fill_set 0 (outB_len _) zw) z_H (Nat.zero_le _) (by rw [List.length_append, List.length_map, List.length_take, List.length_replicate, outB_len]; omega) ?_)
  refine TL.nil ?_
  refine T.live (l := [(2, _), (3, _), (4, _), (32, _)]) zT (fun e_ => ?_)
  refine T.region (zq1 (V1.add rfl rfl (wrap_i64 _ zw zw)) ?_)
  exact ⟨i + 1, _, _, z_N, (.cons rfl .nil), (.cons rfl (.cons rfl (.cons rfl .nil))), z_B, ⟨rfl, by omega⟩⟩
 ·
  obtain rfl : i = 64 := by omega
  rw [fill_end (show (outB st).length = 64 from outB_len st)]
  refine zs ?_
  refine T.cond_f rfl (zs ?_)
  refine z0 (V1.loadN one_74 sz_74 rfl (RdN.whole z_A) (by rw [List.length_map, outB_len])) ?_
  refine zc (T1.storeN rfl rfl sz_74 (one_bytes _) z_H (by rw [List.length_map, outB_len, List.length_replicate]) (by rw [List.length_map, outB_len]) ?_)
  refine zs ?_
  exact ⟨_, ⟨bh, 0, s :: w64 (BitVec.ofNat 64 l.length) :: (stL (absorb T512 T512.init (l)).1).map w64, 10⟩ :: (Lr ++ G), _, .cons (.cellN z_C one_74 sz_74 (RdN.whole z_A) (by rw [List.length_map, outB_len])) .nil, z_B, ⟨bh, 0, s :: w64 (BitVec.ofNat 64 l.length) :: (stL (absorb T512 T512.init (l)).1).map w64, 10⟩ :: Lr, by rw [List.cons_append], by rw [hst]; simp only [sha, List.flatten_cons, List.flatten_nil, List.append_nil]; rfl, rfl⟩
theorem Sum512_any (w0 : World) (v : Value) (ps : List (List UInt8)) (Ps : List Blk) (hp : PartsR w0 Ps v ps) (hlen : ∀ p ∈ ps, p.length ≤ 200000000000000) (hpn : ps.length < 9223372036854775807) (hfl : ps.flatten.length < 4611686018427387904) : FnX P 54 [v] w0 [] Ps (fun v Y => v = .agg ((sha T512 ps.flatten).map byteV).toArray ∧ Y = Ps) := by
 refine FnX.of 10 [.cell 2 74] Go.Proofs.Tryz.func54 rfl rfl rfl rfl (fun G => ?_)
 refine zs ?_
 refine zc (T1.allocN 64 zr_74 rfl (fun b2 => zs ?_))
 refine zc (T1.callN has_98 rfl (fun w hs => New512_any w) (fun v Y hY => ?_))
 obtain ⟨bh, rfl, hb⟩ := hY
 refine zs ?_
 refine zc (T1.callX has_99 rfl (Write512_any _ bh _ [] ps Y Ps hb hp hlen hpn) z_B (fun v2 Z hZ => ?_))
 obtain ⟨X', hx', rfl⟩ := hZ
 rw [List.nil_append] at hx'
 simp only [List.append_assoc]
 refine zs ?_
 refine zc (T1.callX has_100 rfl (HSum512_any _ bh ps.flatten X' hx' hfl) z_B (fun v3 Z hZ => ?_))
 obtain ⟨rfl, rfl⟩ := hZ
 refine zc (T1.storeN rfl rfl sz_74 (one_bytes _) z_H (by rw [List.length_map, sha_len]; rfl) (by rw [List.length_map, sha_len]) ?_)
 refine zs ?_
 exact ⟨_, Ps ++ G, _, .cons (.cellN z_C one_74 sz_74 (RdN.whole z_A) (by rw [List.length_map, sha_len])) .nil, z_B, Ps, rfl, rfl, rfl⟩
end Go.Proofs.YtfjedhmffccgnaaGreatDoor.S
