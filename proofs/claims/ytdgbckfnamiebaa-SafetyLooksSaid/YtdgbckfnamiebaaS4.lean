/- One block of SHA-512. -/
import Derived.Test.YtdgbckfnamiebaaS3
namespace Go.Proofs.Ytdgbckfnamiebaa.S
open Go.RowKit

open Sh
theorem RL64_1 (x : BitVec 64) : RL64 x (-1) = rotr x 1 := by kernel_rfl
theorem RL64_8 (x : BitVec 64) : RL64 x (-8) = rotr x 8 := by kernel_rfl
theorem RL64_19 (x : BitVec 64) : RL64 x (-19) = rotr x 19 := by kernel_rfl
theorem RL64_61 (x : BitVec 64) : RL64 x (-61) = rotr x 61 := by kernel_rfl
theorem RL64_14 (x : BitVec 64) : RL64 x (-14) = rotr x 14 := by kernel_rfl
theorem RL64_18 (x : BitVec 64) : RL64 x (-18) = rotr x 18 := by kernel_rfl
theorem RL64_41 (x : BitVec 64) : RL64 x (-41) = rotr x 41 := by kernel_rfl
theorem RL64_28 (x : BitVec 64) : RL64 x (-28) = rotr x 28 := by kernel_rfl
theorem RL64_34 (x : BitVec 64) : RL64 x (-34) = rotr x 34 := by kernel_rfl
theorem RL64_39 (x : BitVec 64) : RL64 x (-39) = rotr x 39 := by kernel_rfl
theorem tableA {i : Nat} (h : i < 80) : tableV.toArray[i * 1]? = some (w64 (Sh.table.getD i 0)) := by
  rw [Nat.mul_one, List.getElem?_toArray]; exact tableV_get h
theorem stL_map64 {s : R8 64} {i : Nat} (h : i < 8) : ((stL s).map w64)[i]? = some (w64 ((stL s).getD i 0)) := by
  rw [List.getElem?_map, List.getD_eq_getElem?_getD, List.getElem?_eq_getElem (show i < (stL s).length from h)]; rfl
theorem stL_arr64 {s : R8 64} {i : Nat} (h : i < 8) : ((stL s).map w64).toArray[i * 1]? = some (w64 ((stL s).getD i 0)) := by
  rw [Nat.mul_one, List.getElem?_toArray]; exact stL_map64 h
theorem mix_end64 (X Y : R8 64) : ((stL X).map w64).take 8 ++ ((stL Y).map w64).drop 8 = [w64 X.a, w64 X.b, w64 X.c, w64 X.d, w64 X.e, w64 X.f, w64 X.g, w64 X.h] := rfl
theorem at_get {α : Type} {A Z : List α} {x : α} {i : Nat} (h : A.length = i) : (A ++ x :: Z)[i]? = some x := by subst h; simp
theorem at_set {α : Type} {A Z : List α} {x y : α} {i : Nat} (h : A.length = i) : (A ++ x :: Z).set i y = A ++ y :: Z := by subst h; simp
theorem fill_open {α : Type} {f : α → Value} {WW : List α} {z : Value} {m i : Nat} (hi : i < m) : (WW.take i).map f ++ List.replicate (m - i) z = (WW.take i).map f ++ z :: List.replicate (m - (i + 1)) z := by
  rw [show m - i = (m - (i + 1)) + 1 from by omega, List.replicate_succ]
theorem fill_shut {α : Type} {f : α → Value} {WW : List α} {z : Value} {m i : Nat} (d : α) (hl : WW.length = m) (hi : i < m) : (WW.take i).map f ++ f (WW.getD i d) :: List.replicate (m - (i + 1)) z = (WW.take (i + 1)).map f ++ List.replicate (m - (i + 1)) z := by
  rw [List.take_add_one, List.getElem?_eq_getElem (by omega), List.map_append, List.append_assoc, List.getD_eq_getElem?_getD, List.getElem?_eq_getElem (by omega)]; rfl
theorem word_take {w : Nat} {l : List UInt8} {c : Nat} (h : c < l.length) : word w (l.take (c + 1)) = (word w (l.take c) <<< 8) ||| (l.getD c 0).toBitVec.setWidth w := by
  rw [List.take_add_one, getD_some h]
  exact word_snoc w _ _
theorem W_load64 {l : List UInt8} {i : Nat} (hi : i < 16) : (sched T512 (words 64 (l.take 128)) 64).getD i 0 = word 64 ((((l.take 128).drop (8 * i)).take 8).take 8) := by
  rw [sched_first T512 _ (by rw [words_len]; exact hi), words_get _ hi, List.take_take]; rfl
theorem W_next64 {l : List UInt8} {j : Nat} (hj : j < 64) : (sched T512 (words 64 (l.take 128)) 64).getD (16 + j) 0 =
    (sched T512 (words 64 (l.take 128)) 64).getD j 0 + (sched T512 (words 64 (l.take 128)) 64).getD (j + 9) 0 + low T512 ((sched T512 (words 64 (l.take 128)) 64).getD (j + 1) 0) + high T512 ((sched T512 (words 64 (l.take 128)) 64).getD (j + 14) 0) :=
  sched_rec T512 _ (words_len _) hj
theorem V1.sliceMid {C : Ctx} {e : Env} {L : List Blk} {dst : Option Tmp} {ty : TypeId} {pos : String} {after : Array Edge} {guard : Option (Nat × Bool)} {t el : TypeId} {x : Operand} {lo hi : Option Operand} {b o len cap : Nat} (l n : Nat) (hT : C.P.underlying t = some (.slice el)) (hk : SizeIs C.P el 1) (hx : ev C.n e x = .slice (some ⟨b, o, none⟩) len cap)
    (hl : bd C.n e lo 0 = some (l : Int)) (hh : bd C.n e hi len = some ((l + n : Nat) : Int)) (h1 : l + n ≤ cap) (h2 : l < cap) : V1 C ⟨dst, .slice t x lo hi none, ty, pos, after, guard⟩ e L (.slice (some ⟨b, o + l, none⟩) n (cap - l)) := by
  have := V1.sliceSl (dst := dst) (ty := ty) (pos := pos) (after := after) (guard := guard) (L := L) hT hk hx hl hh (by omega) (by omega) (by omega)
  rw [Int.toNat_natCast, Int.toNat_natCast, if_neg (by omega), Nat.mul_one, show l + n - l = n from by omega] at this
  exact this

theorem map_byte_mid {l : List UInt8} {i c : Nat} (h : 8 * i + c < 128 ∧ c < 8) (hl : 128 ≤ l.length) : (l.map byteV)[8 * i + c]? = some (byteV ((((l.take 128).drop (8 * i)).take 8).getD c 0)) := by
  rw [List.getElem?_map, List.getD_eq_getElem?_getD, List.getElem?_take_of_lt h.2, List.getElem?_drop, List.getElem?_take_of_lt h.1, List.getElem?_eq_getElem (by omega)]; rfl

set_option maxRecDepth 100000 in
set_option maxHeartbeats 4000000 in
theorem block512_any (w0 : World) (bh bp op size cap : Nat) (s : Value) (n : BitVec 64) (st : R8 64) (l : List UInt8) (hl : 128 ≤ l.length) (hcap : 128 ≤ cap) : FnX P 34 [.pointer (some ⟨bh, 0, none⟩), .slice (some ⟨bp, op, none⟩) 128 cap] w0 [] [⟨bh, 0, [s, w64 n, w64 st.a, w64 st.b, w64 st.c, w64 st.d, w64 st.e, w64 st.f, w64 st.g, w64 st.h], 10⟩, ⟨bp, op, l.map byteV, size⟩] (fun _ Y => Y = [⟨bh, 0, [s, w64 n, w64 (blockS T512 st (l.take 128)).a, w64 (blockS T512 st (l.take 128)).b, w64 (blockS T512 st (l.take 128)).c, w64 (blockS T512 st (l.take 128)).d, w64 (blockS T512 st (l.take 128)).e, w64 (blockS T512 st (l.take 128)).f, w64 (blockS T512 st (l.take 128)).g, w64 (blockS T512 st (l.take 128)).h], 10⟩, ⟨bp, op, l.map byteV, size⟩]) := by
  obtain ⟨WW, hWW⟩ : ∃ WW, WW = sched T512 (words 64 (l.take 128)) 64 := ⟨_, rfl⟩
  have hWl : WW.length = 80 := by rw [hWW, sched_len, words_len]
  have hB : blockS T512 st (l.take 128) = addR st (rnds T512 WW st 80) := by rw [hWW]; kernel_rfl
  refine FnX.of 191 [] Go.Proofs.Try.func34 rfl rfl rfl rfl (fun G => ?_)
  refine T.seq ?_
  refine T.region ?_
  refine TL.cons rfl (T1.allocN 80 zr_101 rfl (fun b4 => ?_))
  refine TL.nil ?_
  refine T.seq ?_
  refine T.seq ?_
  refine T.region ?_
  refine TL.cons rfl (V1.t (V1.move' (by (conv => lhs; whnf) <;> rfl)) ?_)
  refine TL.nil ?_
  refine T.block ?_
  refine T.loopL (σ := Nat) (l0 := [(0, _), (1, _), (4, _)]) (fun x => [(17, .int .i64 (x : Nat))]) (fun x L => L = ⟨b4, 0, (WW.take (x)).map w64 ++ List.replicate (80 - (x)) (.int .u64 0), 80⟩ :: ⟨bh, 0, [s, w64 n, w64 st.a, w64 st.b, w64 st.c, w64 st.d, w64 st.e, w64 st.f, w64 st.g, w64 st.h], 10⟩ :: ⟨bp, op, l.map byteV, size⟩ :: G ∧ x ≤ 80) (fun x => 80 - x) 0 (.cons rfl .nil) (.cons (by (conv => lhs; whnf) <;> rfl) (.cons (by (conv => lhs; whnf) <;> rfl) (.cons (by (conv => lhs; whnf) <;> rfl) .nil))) (by repeat (first | exact Take.nil | apply Take.one (by repeat (first | exact Pick.here | apply Pick.there | apply Pick.far)) | apply Take.seg (by repeat (first | exact PickS.last | exact PickS.one | exact PickS.here | exact PickS.nil | apply PickS.there | apply PickS.far)) | exact Take.last (by repeat (first | exact PickS.last | exact PickS.one | exact PickS.here | exact PickS.nil | apply PickS.there | apply PickS.far)))) (⟨rfl, Nat.zero_le _⟩) ?_
  rintro i e_ L ⟨rfl, hi⟩
  refine T.seq ?_
  refine T.region ?_
  refine TL.cons rfl (T1.ltI_split rfl rfl (fun h2_0 => ?_) (fun h2_0 => ?_))
  ·
    refine TL.nil ?_
    refine T.seq ?_
    refine T.cond_t rfl ?_
    refine T.skip ?_
    refine T.seq ?_
    refine T.block ?_
    refine T.seq ?_
    refine T.region ?_
    refine TL.cons rfl (V1.t (V1.move' (by (conv => lhs; whnf) <;> rfl)) ?_)
    refine TL.cons rfl (V1.t (V1.assign' (by (conv => lhs; whnf) <;> rfl)) ?_)
    refine TL.nil ?_
    refine T.seq ?_
    refine T.seq ?_
    refine T.region ?_
    refine TL.cons rfl (V1.t (V1.move' (by (conv => lhs; whnf) <;> rfl)) ?_)
    refine TL.cons rfl (T1.ltI_split rfl rfl (fun h4_1 => ?_) (fun h4_1 => ?_))
    ·
      have hWi := W_load64 (l := l) (i := i) (by omega)
      rw [← hWW] at hWi
      have hbl : (((l.take 128).drop (8 * i)).take 8).length = 8 := by rw [List.length_take, List.length_drop, List.length_take]; omega
      rw [fill_open (by omega)]
      refine TL.nil ?_
      refine T.cond_t rfl ?_
      refine T.seq ?_
      refine T.seq ?_
      refine T.region ?_
      refine TL.cons rfl (V1.t (V1.move' (by (conv => lhs; whnf) <;> rfl)) ?_)
      refine TL.cons rfl (V1.t (V1.move' (by (conv => lhs; whnf) <;> rfl)) ?_)
      refine TL.cons rfl (V1.t (V1.mul rfl rfl (wrap_i64 _ (by omega) (by omega))) ?_)
      refine TL.cons rfl (V1.t (V1.move' (by (conv => lhs; whnf) <;> rfl)) ?_)
      refine TL.cons rfl (V1.t (V1.mul rfl rfl (wrap_i64 _ (by omega) (by omega))) ?_)
      refine TL.cons rfl (V1.t (V1.add rfl rfl (wrap_i64 _ (by omega) (by omega))) ?_)
      refine TL.cons rfl (V1.t (V1.sliceMid (8 * i) 8 ty_42 sz_5 rfl rfl rfl (by omega) (by omega)) ?_)
      refine TL.cons rfl (V1.t (V1.lenSl ty_42 rfl) ?_)
      refine TL.cons rfl (V1.t (V1.move' (by (conv => lhs; whnf) <;> rfl)) ?_)
      refine TL.nil ?_
      refine T.block ?_
      refine T.loopL (σ := Nat) (l0 := [(0, _), (1, _), (4, _), (5, _), (17, _), (28, _), (29, _)]) (fun x => [(30, .int .i64 (x : Nat))]) (fun x L => L = ⟨b4, 0, (WW.take i).map w64 ++ w64 (word 64 ((((l.take 128).drop (8 * i)).take 8).take (x))) :: List.replicate (80 - (i + 1)) (.int .u64 0), 80⟩ :: ⟨bh, 0, [s, w64 n, w64 st.a, w64 st.b, w64 st.c, w64 st.d, w64 st.e, w64 st.f, w64 st.g, w64 st.h], 10⟩ :: ⟨bp, op, l.map byteV, size⟩ :: G ∧ x ≤ 8) (fun x => 8 - x) 0 (.cons rfl .nil) (.cons (by (conv => lhs; whnf) <;> rfl) (.cons (by (conv => lhs; whnf) <;> rfl) (.cons (by (conv => lhs; whnf) <;> rfl) (.cons (by (conv => lhs; whnf) <;> rfl) (.cons (by (conv => lhs; whnf) <;> rfl) (.cons (by (conv => lhs; whnf) <;> rfl) (.cons (by (conv => lhs; whnf) <;> rfl) .nil))))))) (by repeat (first | exact Take.nil | apply Take.one (by repeat (first | exact Pick.here | apply Pick.there | apply Pick.far)) | apply Take.seg (by repeat (first | exact PickS.last | exact PickS.one | exact PickS.here | exact PickS.nil | apply PickS.there | apply PickS.far)) | exact Take.last (by repeat (first | exact PickS.last | exact PickS.one | exact PickS.here | exact PickS.nil | apply PickS.there | apply PickS.far)))) (⟨rfl, Nat.zero_le _⟩) ?_
      rintro c e_ L ⟨rfl, hc⟩
      refine T.seq ?_
      refine T.region ?_
      refine TL.cons rfl (T1.ltI_split rfl rfl (fun h6_0 => ?_) (fun h6_0 => ?_))
      ·
        refine TL.nil ?_
        refine T.seq ?_
        refine T.cond_t rfl ?_
        refine T.skip ?_
        refine T.seq ?_
        refine T.block ?_
        refine T.seq ?_
        refine T.region ?_
        refine TL.cons rfl (V1.t (V1.indexAddrS ty_42 sz_5 rfl rfl (by omega) (by omega)) ?_)
        refine TL.cons rfl (V1.t (V1.load1 one_5 rfl (show Rd _ _ ⟨bp, op + 8 * i + c * 1, none⟩ (byteV ((((l.take 128).drop (8 * i)).take 8).getD c 0)) from by rw [Nat.mul_one, Nat.add_assoc]; exact Rd.at (by repeat (first | exact Find.here | assumption | apply Find.there | apply Find.far)) (map_byte_mid (by omega) hl))) ?_)
        refine TL.cons rfl (V1.t (V1.assign' (by (conv => lhs; whnf) <;> rfl)) ?_)
        refine TL.nil ?_
        refine T.region ?_
        refine TL.cons rfl (V1.t (V1.move' (by (conv => lhs; whnf) <;> rfl)) ?_)
        refine TL.cons rfl (V1.t (V1.move' (by (conv => lhs; whnf) <;> rfl)) ?_)
        refine TL.cons rfl (V1.t (V1.indexAddrA ty_101 sz_47 rfl rfl (by omega) (by omega)) ?_)
        refine TL.cons rfl (V1.t (V1.load1 one_47 rfl (show Rd _ _ ⟨b4, 0 + i * 1, none⟩ (w64 (word 64 ((((l.take 128).drop (8 * i)).take 8).take c))) from by rw [Nat.mul_one]; exact Rd.at (by repeat (first | exact Find.here | assumption | apply Find.there | apply Find.far)) (at_get (by rw [List.length_map, List.length_take]; omega)))) ?_)
        refine TL.cons rfl (V1.t (V1.shlW (k := 8) u64U rfl rfl) ?_)
        refine TL.cons rfl (V1.t (V1.move' (by (conv => lhs; whnf) <;> rfl)) ?_)
        refine TL.cons rfl (V1.t (V1.convW 64 u64U ty_5 ty_47 rfl) ?_)
        refine TL.cons rfl (V1.t (V1.orW u64U rfl rfl) ?_)
        refine TL.cons rfl (V1.t (V1.indexAddrA ty_101 sz_47 rfl rfl (by omega) (by omega)) ?_)
        refine TL.cons rfl (T1.storeE (o := 0 + i * 1) (cells := (WW.take i).map w64 ++ w64 (word 64 ((((l.take 128).drop (8 * i)).take 8).take c)) :: List.replicate (80 - (i + 1)) (.int .u64 0)) (cells' := (WW.take i).map w64 ++ w64 (word 64 ((((l.take 128).drop (8 * i)).take 8).take (c + 1))) :: List.replicate (80 - (i + 1)) (.int .u64 0)) rfl (congrArg w64 (word_take (w := 64) (l := (((l.take 128).drop (8 * i)).take 8)) (by omega)).symm) sz_47 rfl (by rw [show 0 + i * 1 - 0 = i from by omega]; exact at_set (by rw [List.length_map, List.length_take]; omega)) (by repeat (first | exact Sub.one | apply Sub.there | apply Sub.far)) (Nat.zero_le _) (by rw [List.length_append, List.length_map, List.length_take, List.length_cons, List.length_replicate]; omega) ?_)
        refine TL.nil ?_
        refine T.region ?_
        refine TL.cons rfl (V1.t (V1.add rfl rfl (wrap_i64 _ (by omega) (by omega))) ?_)
        refine TL.cons rfl (V1.t (V1.move' (by (conv => lhs; whnf) <;> rfl)) ?_)
        refine TL.nil ?_
        exact ⟨c + 1, _, _, (by simp only; omega), (.cons rfl .nil), (.cons rfl (.cons rfl (.cons rfl (.cons rfl (.cons rfl (.cons rfl (.cons rfl .nil))))))), (by repeat (first | exact Take.nil | apply Take.one (by repeat (first | exact Pick.here | apply Pick.there | apply Pick.far)) | apply Take.seg (by repeat (first | exact PickS.last | exact PickS.one | exact PickS.here | exact PickS.nil | apply PickS.there | apply PickS.far)) | exact Take.last (by repeat (first | exact PickS.last | exact PickS.one | exact PickS.here | exact PickS.nil | apply PickS.there | apply PickS.far)))), ⟨rfl, by omega⟩⟩
      ·
        refine TL.nil ?_
        refine T.seq ?_
        refine T.cond_f rfl ?_
        refine T.exit ?_
        refine T.exit ?_
        refine T.region ?_
        refine TL.cons rfl (V1.t (V1.add rfl rfl (wrap_i64 _ (by omega) (by omega))) ?_)
        refine TL.cons rfl (V1.t (V1.move' (by (conv => lhs; whnf) <;> rfl)) ?_)
        refine TL.nil ?_
        obtain rfl : c = 8 := by omega
        rw [← hWi, fill_shut 0 hWl (by omega)]
        exact ⟨i + 1, _, _, (by simp only; omega), (.cons rfl .nil), (.cons rfl (.cons rfl (.cons rfl .nil))), (by repeat (first | exact Take.nil | apply Take.one (by repeat (first | exact Pick.here | apply Pick.there | apply Pick.far)) | apply Take.seg (by repeat (first | exact PickS.last | exact PickS.one | exact PickS.here | exact PickS.nil | apply PickS.there | apply PickS.far)) | exact Take.last (by repeat (first | exact PickS.last | exact PickS.one | exact PickS.here | exact PickS.nil | apply PickS.there | apply PickS.far)))), ⟨rfl, by omega⟩⟩
    ·
      obtain ⟨j, rfl⟩ : ∃ j, i = 16 + j := ⟨i - 16, by omega⟩
      have hWi := W_next64 (l := l) (j := j) (by omega)
      rw [← hWW] at hWi
      refine TL.nil ?_
      refine T.cond_f rfl ?_
      refine T.skip ?_
      refine T.seq ?_
      refine T.drawDet' mixed (by decide +kernel) ?_
      refine Det.cons 0 (ins := [(5, _)]) (.old (by (conv => lhs; whnf) <;> rfl) (by decide +kernel) .nil) (fun e_ => .inl ⟨rfl, V1.t (V1.move' (by (conv => lhs; whnf) <;> rfl)) ⟨rfl, rfl⟩⟩) ?_
      refine Det.cons 1 (ins := [(44, _)]) (.new 0 0 (by decide +kernel) rfl rfl .nil) (fun e_ => .inl ⟨rfl, V1.t (V1.sub rfl rfl (c := ((j + 1 : Nat) : Int)) (by rw [wrap_i64 _ (by omega) (by omega)]; omega)) ⟨rfl, rfl⟩⟩) ?_
      refine Det.cons 2 (ins := [(4, _), (45, _)]) (.old (by (conv => lhs; whnf) <;> rfl) (by decide +kernel) (.new 1 0 (by decide +kernel) rfl rfl .nil)) (fun e_ => .inl ⟨rfl, V1.t (V1.indexAddrA ty_101 sz_47 rfl rfl (by omega) (by omega)) ⟨rfl, rfl⟩⟩) ?_
      refine Det.cons 3 (ins := [(46, _)]) (.new 2 0 (by decide +kernel) rfl rfl .nil) (fun e_ => .inl ⟨rfl, V1.t (V1.load1 one_47 rfl (show Rd _ _ ⟨b4, 0 + (j + 1) * 1, none⟩ (w64 (WW.getD (j + 1) 0)) from by rw [Nat.mul_one]; exact Rd.at (by repeat (first | exact Find.here | assumption | apply Find.there | apply Find.far)) (fill_get 0 (by omega) (by omega)))) ⟨rfl, rfl⟩⟩) ?_
      refine Det.cons 4 (ins := [(5, _)]) (.old (by (conv => lhs; whnf) <;> rfl) (by decide +kernel) .nil) (fun e_ => .inl ⟨rfl, V1.t (V1.move' (by (conv => lhs; whnf) <;> rfl)) ⟨rfl, rfl⟩⟩) ?_
      refine Det.cons 5 (ins := [(48, _)]) (.new 4 0 (by decide +kernel) rfl rfl .nil) (fun e_ => .inl ⟨rfl, V1.t (V1.sub rfl rfl (c := ((j + 14 : Nat) : Int)) (by rw [wrap_i64 _ (by omega) (by omega)]; omega)) ⟨rfl, rfl⟩⟩) ?_
      refine Det.cons 6 (ins := [(4, _), (49, _)]) (.old (by (conv => lhs; whnf) <;> rfl) (by decide +kernel) (.new 5 0 (by decide +kernel) rfl rfl .nil)) (fun e_ => .inl ⟨rfl, V1.t (V1.indexAddrA ty_101 sz_47 rfl rfl (by omega) (by omega)) ⟨rfl, rfl⟩⟩) ?_
      refine Det.cons 7 (ins := [(50, _)]) (.new 6 0 (by decide +kernel) rfl rfl .nil) (fun e_ => .inl ⟨rfl, V1.t (V1.load1 one_47 rfl (show Rd _ _ ⟨b4, 0 + (j + 14) * 1, none⟩ (w64 (WW.getD (j + 14) 0)) from by rw [Nat.mul_one]; exact Rd.at (by repeat (first | exact Find.here | assumption | apply Find.there | apply Find.far)) (fill_get 0 (by omega) (by omega)))) ⟨rfl, rfl⟩⟩) ?_
      refine Det.cons 8 (ins := [(47, _)]) (.new 3 4 (by decide +kernel) rfl rfl .nil) (fun e_ => .inl ⟨rfl, V1.t (V1.assign' (by (conv => lhs; whnf) <;> rfl)) ⟨rfl, rfl⟩⟩) ?_
      refine Det.cons 9 (ins := [(51, _)]) (.new 7 1 (by decide +kernel) rfl rfl .nil) (fun e_ => .inl ⟨rfl, V1.t (V1.assign' (by (conv => lhs; whnf) <;> rfl)) ⟨rfl, rfl⟩⟩) ?_
      refine Det.nil 10 (l := [(0, _), (1, _), (4, _), (5, _), (8, _), (9, _), (17, _)]) (.old (by (conv => lhs; whnf) <;> rfl) (by decide +kernel) (.old (by (conv => lhs; whnf) <;> rfl) (by decide +kernel) (.old (by (conv => lhs; whnf) <;> rfl) (by decide +kernel) (.old (by (conv => lhs; whnf) <;> rfl) (by decide +kernel) (.new 8 1 (by decide +kernel) rfl rfl (.new 9 0 (by decide +kernel) rfl rfl (.old (by (conv => lhs; whnf) <;> rfl) (by decide +kernel) .nil))))))) (fun e_ => ?_)
      refine T.drawTail 28 mixed (by decide +kernel) (by rfl) (by decide +kernel) rfl ?_
      refine Det.cons 0 (ins := [(5, _)]) (.old (by (conv => lhs; whnf) <;> rfl) (by decide +kernel) .nil) (fun e_ => .inl ⟨rfl, V1.t (V1.move' (by (conv => lhs; whnf) <;> rfl)) ⟨rfl, rfl⟩⟩) ?_
      refine Det.cons 1 (ins := [(5, _)]) (.old (by (conv => lhs; whnf) <;> rfl) (by decide +kernel) .nil) (fun e_ => .inl ⟨rfl, V1.t (V1.move' (by (conv => lhs; whnf) <;> rfl)) ⟨rfl, rfl⟩⟩) ?_
      refine Det.cons 2 (ins := [(53, _)]) (.new 1 0 (by decide +kernel) rfl rfl .nil) (fun e_ => .inl ⟨rfl, V1.t (V1.sub rfl rfl (c := ((j : Nat) : Int)) (by rw [wrap_i64 _ (by omega) (by omega)]; omega)) ⟨rfl, rfl⟩⟩) ?_
      refine Det.cons 3 (ins := [(4, _), (54, _)]) (.old (by (conv => lhs; whnf) <;> rfl) (by decide +kernel) (.new 2 0 (by decide +kernel) rfl rfl .nil)) (fun e_ => .inl ⟨rfl, V1.t (V1.indexAddrA ty_101 sz_47 rfl rfl (by omega) (by omega)) ⟨rfl, rfl⟩⟩) ?_
      refine Det.cons 4 (ins := [(55, _)]) (.new 3 0 (by decide +kernel) rfl rfl .nil) (fun e_ => .inl ⟨rfl, V1.t (V1.load1 one_47 rfl (show Rd _ _ ⟨b4, 0 + (j) * 1, none⟩ (w64 (WW.getD (j) 0)) from by rw [Nat.mul_one]; exact Rd.at (by repeat (first | exact Find.here | assumption | apply Find.there | apply Find.far)) (fill_get 0 (by omega) (by omega)))) ⟨rfl, rfl⟩⟩) ?_
      refine Det.cons 5 (ins := [(5, _)]) (.old (by (conv => lhs; whnf) <;> rfl) (by decide +kernel) .nil) (fun e_ => .inl ⟨rfl, V1.t (V1.move' (by (conv => lhs; whnf) <;> rfl)) ⟨rfl, rfl⟩⟩) ?_
      refine Det.cons 6 (ins := [(57, _)]) (.new 5 0 (by decide +kernel) rfl rfl .nil) (fun e_ => .inl ⟨rfl, V1.t (V1.sub rfl rfl (c := ((j + 9 : Nat) : Int)) (by rw [wrap_i64 _ (by omega) (by omega)]; omega)) ⟨rfl, rfl⟩⟩) ?_
      refine Det.cons 7 (ins := [(4, _), (58, _)]) (.old (by (conv => lhs; whnf) <;> rfl) (by decide +kernel) (.new 6 0 (by decide +kernel) rfl rfl .nil)) (fun e_ => .inl ⟨rfl, V1.t (V1.indexAddrA ty_101 sz_47 rfl rfl (by omega) (by omega)) ⟨rfl, rfl⟩⟩) ?_
      refine Det.cons 8 (ins := [(59, _)]) (.new 7 0 (by decide +kernel) rfl rfl .nil) (fun e_ => .inl ⟨rfl, V1.t (V1.load1 one_47 rfl (show Rd _ _ ⟨b4, 0 + (j + 9) * 1, none⟩ (w64 (WW.getD (j + 9) 0)) from by rw [Nat.mul_one]; exact Rd.at (by repeat (first | exact Find.here | assumption | apply Find.there | apply Find.far)) (fill_get 0 (by omega) (by omega)))) ⟨rfl, rfl⟩⟩) ?_
      refine Det.cons 9 (ins := [(56, _), (60, _)]) (.new 4 4 (by decide +kernel) rfl rfl (.new 8 0 (by decide +kernel) rfl rfl .nil)) (fun e_ => .inl ⟨rfl, V1.t (V1.addW u64U rfl rfl) ⟨rfl, rfl⟩⟩) ?_
      refine Det.cons 10 (ins := [(8, _)]) (.old (by (conv => lhs; whnf) <;> rfl) (by decide +kernel) .nil) (fun e_ => .inl ⟨rfl, V1.t (V1.move' (by (conv => lhs; whnf) <;> rfl)) ⟨rfl, rfl⟩⟩) ?_
      refine Det.cons 11 (ins := [(62, _)]) (v := w64 (rotr (WW.getD (j + 1) 0) 1)) (.new 10 0 (by decide +kernel) rfl rfl .nil) (fun e_ => .inl ⟨rfl, ?_⟩) ?_
      · refine T1.call0 has_54 rfl (fun w hs => RotL64_any _ _ w) (fun v hv => ?_)
        rw [RL64_1] at hv
        subst hv
        exact ⟨rfl, rfl⟩
      refine Det.cons 12 (ins := [(8, _)]) (.old (by (conv => lhs; whnf) <;> rfl) (by decide +kernel) .nil) (fun e_ => .inl ⟨rfl, V1.t (V1.move' (by (conv => lhs; whnf) <;> rfl)) ⟨rfl, rfl⟩⟩) ?_
      refine Det.cons 13 (ins := [(64, _)]) (v := w64 (rotr (WW.getD (j + 1) 0) 8)) (.new 12 0 (by decide +kernel) rfl rfl .nil) (fun e_ => .inl ⟨rfl, ?_⟩) ?_
      · refine T1.call0 has_54 rfl (fun w hs => RotL64_any _ _ w) (fun v hv => ?_)
        rw [RL64_8] at hv
        subst hv
        exact ⟨rfl, rfl⟩
      refine Det.cons 14 (ins := [(63, _), (65, _)]) (.new 11 2 (by decide +kernel) rfl rfl (.new 13 0 (by decide +kernel) rfl rfl .nil)) (fun e_ => .inl ⟨rfl, V1.t (V1.xorW u64U rfl rfl) ⟨rfl, rfl⟩⟩) ?_
      refine Det.cons 15 (ins := [(8, _)]) (.old (by (conv => lhs; whnf) <;> rfl) (by decide +kernel) .nil) (fun e_ => .inl ⟨rfl, V1.t (V1.move' (by (conv => lhs; whnf) <;> rfl)) ⟨rfl, rfl⟩⟩) ?_
      refine Det.cons 16 (ins := [(67, _)]) (.new 15 0 (by decide +kernel) rfl rfl .nil) (fun e_ => .inl ⟨rfl, V1.t (V1.shrW (k := 7) u64U rfl rfl) ⟨rfl, rfl⟩⟩) ?_
      refine Det.cons 17 (ins := [(66, _), (68, _)]) (.new 14 2 (by decide +kernel) rfl rfl (.new 16 0 (by decide +kernel) rfl rfl .nil)) (fun e_ => .inl ⟨rfl, V1.t (V1.xorW u64U rfl rfl) ⟨rfl, rfl⟩⟩) ?_
      refine Det.cons 18 (ins := [(61, _), (69, _)]) (.new 9 8 (by decide +kernel) rfl rfl (.new 17 0 (by decide +kernel) rfl rfl .nil)) (fun e_ => .inl ⟨rfl, V1.t (V1.addW u64U rfl rfl) ⟨rfl, rfl⟩⟩) ?_
      refine Det.cons 19 (ins := [(9, _)]) (.old (by (conv => lhs; whnf) <;> rfl) (by decide +kernel) .nil) (fun e_ => .inl ⟨rfl, V1.t (V1.move' (by (conv => lhs; whnf) <;> rfl)) ⟨rfl, rfl⟩⟩) ?_
      refine Det.cons 20 (ins := [(71, _)]) (v := w64 (rotr (WW.getD (j + 14) 0) 19)) (.new 19 0 (by decide +kernel) rfl rfl .nil) (fun e_ => .inl ⟨rfl, ?_⟩) ?_
      · refine T1.call0 has_54 rfl (fun w hs => RotL64_any _ _ w) (fun v hv => ?_)
        rw [RL64_19] at hv
        subst hv
        exact ⟨rfl, rfl⟩
      refine Det.cons 21 (ins := [(9, _)]) (.old (by (conv => lhs; whnf) <;> rfl) (by decide +kernel) .nil) (fun e_ => .inl ⟨rfl, V1.t (V1.move' (by (conv => lhs; whnf) <;> rfl)) ⟨rfl, rfl⟩⟩) ?_
      refine Det.cons 22 (ins := [(73, _)]) (v := w64 (rotr (WW.getD (j + 14) 0) 61)) (.new 21 0 (by decide +kernel) rfl rfl .nil) (fun e_ => .inl ⟨rfl, ?_⟩) ?_
      · refine T1.call0 has_54 rfl (fun w hs => RotL64_any _ _ w) (fun v hv => ?_)
        rw [RL64_61] at hv
        subst hv
        exact ⟨rfl, rfl⟩
      refine Det.cons 23 (ins := [(72, _), (74, _)]) (.new 20 2 (by decide +kernel) rfl rfl (.new 22 0 (by decide +kernel) rfl rfl .nil)) (fun e_ => .inl ⟨rfl, V1.t (V1.xorW u64U rfl rfl) ⟨rfl, rfl⟩⟩) ?_
      refine Det.cons 24 (ins := [(9, _)]) (.old (by (conv => lhs; whnf) <;> rfl) (by decide +kernel) .nil) (fun e_ => .inl ⟨rfl, V1.t (V1.move' (by (conv => lhs; whnf) <;> rfl)) ⟨rfl, rfl⟩⟩) ?_
      refine Det.cons 25 (ins := [(76, _)]) (.new 24 0 (by decide +kernel) rfl rfl .nil) (fun e_ => .inl ⟨rfl, V1.t (V1.shrW (k := 6) u64U rfl rfl) ⟨rfl, rfl⟩⟩) ?_
      refine Det.cons 26 (ins := [(75, _), (77, _)]) (.new 23 2 (by decide +kernel) rfl rfl (.new 25 0 (by decide +kernel) rfl rfl .nil)) (fun e_ => .inl ⟨rfl, V1.t (V1.xorW u64U rfl rfl) ⟨rfl, rfl⟩⟩) ?_
      refine Det.cons 27 (ins := [(70, _), (78, _)]) (.new 18 8 (by decide +kernel) rfl rfl (.new 26 0 (by decide +kernel) rfl rfl .nil)) (fun e_ => .inl ⟨rfl, V1.t (V1.addW u64U rfl rfl) ⟨rfl, rfl⟩⟩) ?_
      refine Det.nil 28 (l := [(0, _), (1, _), (4, _), (17, _), (52, _), (79, _)]) (.old (by (conv => lhs; whnf) <;> rfl) (by decide +kernel) (.old (by (conv => lhs; whnf) <;> rfl) (by decide +kernel) (.old (by (conv => lhs; whnf) <;> rfl) (by decide +kernel) (.old (by (conv => lhs; whnf) <;> rfl) (by decide +kernel) (.new 0 27 (by decide +kernel) rfl rfl (.new 27 0 (by decide +kernel) rfl rfl .nil)))))) (fun e_ => ?_)
      refine (show TU _ _ _ 2 _ _ _ from ?_)
      refine TU.one 28 (by decide +kernel) rfl rfl (V1.t (V1.indexAddrA ty_101 sz_47 rfl rfl (by omega) (by omega)) ?_)
      refine TU.one 29 (by decide +kernel) rfl rfl (T1.storeE (o := 0 + (16 + j) * 1) (cells := (WW.take (16 + j)).map w64 ++ List.replicate (80 - (16 + j)) (.int .u64 0)) (cells' := (WW.take (16 + j + 1)).map w64 ++ List.replicate (80 - (16 + j + 1)) (.int .u64 0)) rfl (congrArg w64 hWi.symm) sz_47 rfl (by rw [show 0 + (16 + j) * 1 - 0 = 16 + j from by omega]; exact fill_set 0 hWl (by omega)) (by repeat (first | exact Sub.one | apply Sub.there | apply Sub.far)) (Nat.zero_le _) (by rw [List.length_append, List.length_map, List.length_take, List.length_replicate]; omega) ?_)
      refine TU.done (by decide +kernel) ?_
      refine T.region ?_
      refine TL.cons rfl (V1.t (V1.add rfl rfl (wrap_i64 _ (by omega) (by omega))) ?_)
      refine TL.cons rfl (V1.t (V1.move' (by (conv => lhs; whnf) <;> rfl)) ?_)
      refine TL.nil ?_
      exact ⟨16 + j + 1, _, _, (by simp only; omega), (.cons rfl .nil), (.cons rfl (.cons rfl (.cons rfl .nil))), (by repeat (first | exact Take.nil | apply Take.one (by repeat (first | exact Pick.here | apply Pick.there | apply Pick.far)) | apply Take.seg (by repeat (first | exact PickS.last | exact PickS.one | exact PickS.here | exact PickS.nil | apply PickS.there | apply PickS.far)) | exact Take.last (by repeat (first | exact PickS.last | exact PickS.one | exact PickS.here | exact PickS.nil | apply PickS.there | apply PickS.far)))), ⟨rfl, by omega⟩⟩
  ·
    obtain rfl : i = 80 := by omega
    refine TL.nil ?_
    refine T.seq ?_
    refine T.cond_f rfl ?_
    refine T.exit ?_
    refine T.seq ?_
    refine T.region ?_
    refine TL.cons rfl (V1.t (V1.move' (by (conv => lhs; whnf) <;> rfl)) ?_)
    refine TL.cons rfl (V1.t (V1.nilCheck rfl) ?_)
    refine TL.cons rfl (V1.t (V1.fieldAddr fl_79_1 rfl) ?_)
    refine TL.cons rfl (V1.t (V1.loadN (vs := [w64 st.a, w64 st.b, w64 st.c, w64 st.d, w64 st.e, w64 st.f, w64 st.g, w64 st.h]) one_75 sz_75 rfl (RdN.sub (o := 2) (k := 8) (cells := [s, w64 n, w64 st.a, w64 st.b, w64 st.c, w64 st.d, w64 st.e, w64 st.f, w64 st.g, w64 st.h]) (by repeat (first | exact Find.here | assumption | apply Find.there | apply Find.far))) rfl) ?_)
    refine TL.cons rfl (T1.allocN 8 zr_75 rfl (fun b10 => ?_))
    refine TL.cons rfl (T1.storeN rfl rfl sz_75 (ones rfl) (by repeat (first | exact Sub.one | apply Sub.there | apply Sub.far)) (by rfl) (by rfl) ?_)
    refine TL.nil ?_
    refine T.seq ?_
    refine T.seq ?_
    refine T.region ?_
    refine TL.cons rfl (T1.call0 has_55 rfl (fun w hs => table_any w) (fun v hv => ?_))
    subst hv
    refine TL.cons rfl (V1.t (V1.move' (by (conv => lhs; whnf) <;> rfl)) ?_)
    refine TL.nil ?_
    refine T.block ?_
    refine T.loopL (σ := Nat) (l0 := [(0, _), (4, _), (10, _), (86, _)]) (fun x => [(87, .int .i64 (x : Nat))]) (fun x L => L = ⟨b10, 0, [w64 (rnds T512 WW st (x)).a, w64 (rnds T512 WW st (x)).b, w64 (rnds T512 WW st (x)).c, w64 (rnds T512 WW st (x)).d, w64 (rnds T512 WW st (x)).e, w64 (rnds T512 WW st (x)).f, w64 (rnds T512 WW st (x)).g, w64 (rnds T512 WW st (x)).h], 8⟩ :: ⟨b4, 0, (WW.take (80)).map w64 ++ List.replicate (80 - (80)) (.int .u64 0), 80⟩ :: ⟨bh, 0, [s, w64 n, w64 st.a, w64 st.b, w64 st.c, w64 st.d, w64 st.e, w64 st.f, w64 st.g, w64 st.h], 10⟩ :: ⟨bp, op, l.map byteV, size⟩ :: G ∧ x ≤ 80) (fun x => 80 - x) 0 (.cons rfl .nil) (.cons (by (conv => lhs; whnf) <;> rfl) (.cons (by (conv => lhs; whnf) <;> rfl) (.cons (by (conv => lhs; whnf) <;> rfl) (.cons (by (conv => lhs; whnf) <;> rfl) .nil)))) (by repeat (first | exact Take.nil | apply Take.one (by repeat (first | exact Pick.here | apply Pick.there | apply Pick.far)) | apply Take.seg (by repeat (first | exact PickS.last | exact PickS.one | exact PickS.here | exact PickS.nil | apply PickS.there | apply PickS.far)) | exact Take.last (by repeat (first | exact PickS.last | exact PickS.one | exact PickS.here | exact PickS.nil | apply PickS.there | apply PickS.far)))) (⟨rfl, Nat.zero_le _⟩) ?_
    rintro i e_ L ⟨rfl, hi⟩
    refine T.seq ?_
    refine T.region ?_
    refine TL.cons rfl (T1.ltI_split rfl rfl (fun h15_0 => ?_) (fun h15_0 => ?_))
    ·
      refine TL.nil ?_
      refine T.seq ?_
      refine T.cond_t rfl ?_
      refine T.skip ?_
      refine T.seq ?_
      refine T.block ?_
      refine T.seq ?_
      refine T.region ?_
      refine TL.cons rfl (V1.t (V1.move' (by (conv => lhs; whnf) <;> rfl)) ?_)
      refine TL.cons rfl (V1.t (V1.indexA ty_101 sz_47 rfl rfl (by omega) (by omega) (fun w => run_part1 one_47 (show tableV.toArray[i * 1]? = some (w64 (Sh.table.getD i 0)) from tableA (by omega)) w)) ?_)
      refine TL.cons rfl (V1.t (V1.assign' (by (conv => lhs; whnf) <;> rfl)) ?_)
      refine TL.cons rfl (V1.t (V1.assign' (by (conv => lhs; whnf) <;> rfl)) ?_)
      refine TL.nil ?_
      refine T.seq ?_
      refine T.drawDet' mixed (by decide +kernel) ?_
      refine Det.cons 0 (ins := [(10, _)]) (.old (by (conv => lhs; whnf) <;> rfl) (by decide +kernel) .nil) (fun e_ => .inl ⟨rfl, V1.t (V1.indexAddrA ty_75 sz_47 rfl rfl (by decide) (by decide)) ⟨rfl, rfl⟩⟩) ?_
      refine Det.cons 1 (ins := [(91, _)]) (.new 0 0 (by decide +kernel) rfl rfl .nil) (fun e_ => .inl ⟨rfl, V1.t (V1.load1 one_47 rfl (.own (by repeat (first | exact Find.here | assumption | apply Find.there | apply Find.far)) (by rfl))) ⟨rfl, rfl⟩⟩) ?_
      refine Det.cons 2 (ins := [(10, _)]) (.old (by (conv => lhs; whnf) <;> rfl) (by decide +kernel) .nil) (fun e_ => .inl ⟨rfl, V1.t (V1.indexAddrA ty_75 sz_47 rfl rfl (by decide) (by decide)) ⟨rfl, rfl⟩⟩) ?_
      refine Det.cons 3 (ins := [(93, _)]) (.new 2 0 (by decide +kernel) rfl rfl .nil) (fun e_ => .inl ⟨rfl, V1.t (V1.load1 one_47 rfl (.own (by repeat (first | exact Find.here | assumption | apply Find.there | apply Find.far)) (by rfl))) ⟨rfl, rfl⟩⟩) ?_
      refine Det.cons 4 (ins := [(94, _)]) (v := w64 (rotr ((rnds T512 WW st i).e) 14)) (.new 3 0 (by decide +kernel) rfl rfl .nil) (fun e_ => .inl ⟨rfl, ?_⟩) ?_
      · refine T1.call0 has_54 rfl (fun w hs => RotL64_any _ _ w) (fun v hv => ?_)
        rw [RL64_14] at hv
        subst hv
        exact ⟨rfl, rfl⟩
      refine Det.cons 5 (ins := [(10, _)]) (.old (by (conv => lhs; whnf) <;> rfl) (by decide +kernel) .nil) (fun e_ => .inl ⟨rfl, V1.t (V1.indexAddrA ty_75 sz_47 rfl rfl (by decide) (by decide)) ⟨rfl, rfl⟩⟩) ?_
      refine Det.cons 6 (ins := [(96, _)]) (.new 5 0 (by decide +kernel) rfl rfl .nil) (fun e_ => .inl ⟨rfl, V1.t (V1.load1 one_47 rfl (.own (by repeat (first | exact Find.here | assumption | apply Find.there | apply Find.far)) (by rfl))) ⟨rfl, rfl⟩⟩) ?_
      refine Det.cons 7 (ins := [(97, _)]) (v := w64 (rotr ((rnds T512 WW st i).e) 18)) (.new 6 0 (by decide +kernel) rfl rfl .nil) (fun e_ => .inl ⟨rfl, ?_⟩) ?_
      · refine T1.call0 has_54 rfl (fun w hs => RotL64_any _ _ w) (fun v hv => ?_)
        rw [RL64_18] at hv
        subst hv
        exact ⟨rfl, rfl⟩
      refine Det.cons 8 (ins := [(95, _), (98, _)]) (.new 4 3 (by decide +kernel) rfl rfl (.new 7 0 (by decide +kernel) rfl rfl .nil)) (fun e_ => .inl ⟨rfl, V1.t (V1.xorW u64U rfl rfl) ⟨rfl, rfl⟩⟩) ?_
      refine Det.cons 9 (ins := [(10, _)]) (.old (by (conv => lhs; whnf) <;> rfl) (by decide +kernel) .nil) (fun e_ => .inl ⟨rfl, V1.t (V1.indexAddrA ty_75 sz_47 rfl rfl (by decide) (by decide)) ⟨rfl, rfl⟩⟩) ?_
      refine Det.cons 10 (ins := [(100, _)]) (.new 9 0 (by decide +kernel) rfl rfl .nil) (fun e_ => .inl ⟨rfl, V1.t (V1.load1 one_47 rfl (.own (by repeat (first | exact Find.here | assumption | apply Find.there | apply Find.far)) (by rfl))) ⟨rfl, rfl⟩⟩) ?_
      refine Det.cons 11 (ins := [(101, _)]) (v := w64 (rotr ((rnds T512 WW st i).e) 41)) (.new 10 0 (by decide +kernel) rfl rfl .nil) (fun e_ => .inl ⟨rfl, ?_⟩) ?_
      · refine T1.call0 has_54 rfl (fun w hs => RotL64_any _ _ w) (fun v hv => ?_)
        rw [RL64_41] at hv
        subst hv
        exact ⟨rfl, rfl⟩
      refine Det.cons 12 (ins := [(99, _), (102, _)]) (.new 8 3 (by decide +kernel) rfl rfl (.new 11 0 (by decide +kernel) rfl rfl .nil)) (fun e_ => .inl ⟨rfl, V1.t (V1.xorW u64U rfl rfl) ⟨rfl, rfl⟩⟩) ?_
      refine Det.cons 13 (ins := [(92, _), (103, _)]) (.new 1 11 (by decide +kernel) rfl rfl (.new 12 0 (by decide +kernel) rfl rfl .nil)) (fun e_ => .inl ⟨rfl, V1.t (V1.addW u64U rfl rfl) ⟨rfl, rfl⟩⟩) ?_
      refine Det.cons 14 (ins := [(10, _)]) (.old (by (conv => lhs; whnf) <;> rfl) (by decide +kernel) .nil) (fun e_ => .inl ⟨rfl, V1.t (V1.indexAddrA ty_75 sz_47 rfl rfl (by decide) (by decide)) ⟨rfl, rfl⟩⟩) ?_
      refine Det.cons 15 (ins := [(105, _)]) (.new 14 0 (by decide +kernel) rfl rfl .nil) (fun e_ => .inl ⟨rfl, V1.t (V1.load1 one_47 rfl (.own (by repeat (first | exact Find.here | assumption | apply Find.there | apply Find.far)) (by rfl))) ⟨rfl, rfl⟩⟩) ?_
      refine Det.cons 16 (ins := [(10, _)]) (.old (by (conv => lhs; whnf) <;> rfl) (by decide +kernel) .nil) (fun e_ => .inl ⟨rfl, V1.t (V1.indexAddrA ty_75 sz_47 rfl rfl (by decide) (by decide)) ⟨rfl, rfl⟩⟩) ?_
      refine Det.cons 17 (ins := [(107, _)]) (.new 16 0 (by decide +kernel) rfl rfl .nil) (fun e_ => .inl ⟨rfl, V1.t (V1.load1 one_47 rfl (.own (by repeat (first | exact Find.here | assumption | apply Find.there | apply Find.far)) (by rfl))) ⟨rfl, rfl⟩⟩) ?_
      refine Det.cons 18 (ins := [(106, _), (108, _)]) (.new 15 2 (by decide +kernel) rfl rfl (.new 17 0 (by decide +kernel) rfl rfl .nil)) (fun e_ => .inl ⟨rfl, V1.t (V1.andW u64U rfl rfl) ⟨rfl, rfl⟩⟩) ?_
      refine Det.cons 19 (ins := [(10, _)]) (.old (by (conv => lhs; whnf) <;> rfl) (by decide +kernel) .nil) (fun e_ => .inl ⟨rfl, V1.t (V1.indexAddrA ty_75 sz_47 rfl rfl (by decide) (by decide)) ⟨rfl, rfl⟩⟩) ?_
      refine Det.cons 20 (ins := [(110, _)]) (.new 19 0 (by decide +kernel) rfl rfl .nil) (fun e_ => .inl ⟨rfl, V1.t (V1.load1 one_47 rfl (.own (by repeat (first | exact Find.here | assumption | apply Find.there | apply Find.far)) (by rfl))) ⟨rfl, rfl⟩⟩) ?_
      refine Det.cons 21 (ins := [(111, _)]) (.new 20 0 (by decide +kernel) rfl rfl .nil) (fun e_ => .inl ⟨rfl, V1.t (V1.complW u64U rfl) ⟨rfl, rfl⟩⟩) ?_
      refine Det.cons 22 (ins := [(10, _)]) (.old (by (conv => lhs; whnf) <;> rfl) (by decide +kernel) .nil) (fun e_ => .inl ⟨rfl, V1.t (V1.indexAddrA ty_75 sz_47 rfl rfl (by decide) (by decide)) ⟨rfl, rfl⟩⟩) ?_
      refine Det.cons 23 (ins := [(113, _)]) (.new 22 0 (by decide +kernel) rfl rfl .nil) (fun e_ => .inl ⟨rfl, V1.t (V1.load1 one_47 rfl (.own (by repeat (first | exact Find.here | assumption | apply Find.there | apply Find.far)) (by rfl))) ⟨rfl, rfl⟩⟩) ?_
      refine Det.cons 24 (ins := [(112, _), (114, _)]) (.new 21 2 (by decide +kernel) rfl rfl (.new 23 0 (by decide +kernel) rfl rfl .nil)) (fun e_ => .inl ⟨rfl, V1.t (V1.andW u64U rfl rfl) ⟨rfl, rfl⟩⟩) ?_
      refine Det.cons 25 (ins := [(109, _), (115, _)]) (.new 18 6 (by decide +kernel) rfl rfl (.new 24 0 (by decide +kernel) rfl rfl .nil)) (fun e_ => .inl ⟨rfl, V1.t (V1.xorW u64U rfl rfl) ⟨rfl, rfl⟩⟩) ?_
      refine Det.cons 26 (ins := [(104, _), (116, _)]) (.new 13 12 (by decide +kernel) rfl rfl (.new 25 0 (by decide +kernel) rfl rfl .nil)) (fun e_ => .inl ⟨rfl, V1.t (V1.addW u64U rfl rfl) ⟨rfl, rfl⟩⟩) ?_
      refine Det.cons 27 (ins := [(12, _)]) (.old (by (conv => lhs; whnf) <;> rfl) (by decide +kernel) .nil) (fun e_ => .inl ⟨rfl, V1.t (V1.move' (by (conv => lhs; whnf) <;> rfl)) ⟨rfl, rfl⟩⟩) ?_
      refine Det.cons 28 (ins := [(117, _), (118, _)]) (.new 26 1 (by decide +kernel) rfl rfl (.new 27 0 (by decide +kernel) rfl rfl .nil)) (fun e_ => .inl ⟨rfl, V1.t (V1.addW u64U rfl rfl) ⟨rfl, rfl⟩⟩) ?_
      refine Det.cons 29 (ins := [(11, _)]) (.old (by (conv => lhs; whnf) <;> rfl) (by decide +kernel) .nil) (fun e_ => .inl ⟨rfl, V1.t (V1.move' (by (conv => lhs; whnf) <;> rfl)) ⟨rfl, rfl⟩⟩) ?_
      refine Det.cons 30 (ins := [(4, _), (120, _)]) (.old (by (conv => lhs; whnf) <;> rfl) (by decide +kernel) (.new 29 0 (by decide +kernel) rfl rfl .nil)) (fun e_ => .inl ⟨rfl, V1.t (V1.indexAddrA ty_101 sz_47 rfl rfl (by omega) (by omega)) ⟨rfl, rfl⟩⟩) ?_
      refine Det.cons 31 (ins := [(121, _)]) (.new 30 0 (by decide +kernel) rfl rfl .nil) (fun e_ => .inl ⟨rfl, V1.t (V1.load1 one_47 rfl (show Rd _ _ ⟨b4, 0 + i * 1, none⟩ (w64 (WW.getD i 0)) from by rw [Nat.mul_one]; exact Rd.at (by repeat (first | exact Find.here | assumption | apply Find.there | apply Find.far)) (fill_get 0 (by omega) (by omega)))) ⟨rfl, rfl⟩⟩) ?_
      refine Det.cons 32 (ins := [(119, _), (122, _)]) (.new 28 3 (by decide +kernel) rfl rfl (.new 31 0 (by decide +kernel) rfl rfl .nil)) (fun e_ => .inl ⟨rfl, V1.t (V1.addW u64U rfl rfl) ⟨rfl, rfl⟩⟩) ?_
      refine Det.cons 33 (ins := [(123, _)]) (.new 32 0 (by decide +kernel) rfl rfl .nil) (fun e_ => .inl ⟨rfl, V1.t (V1.assign' (by (conv => lhs; whnf) <;> rfl)) ⟨rfl, rfl⟩⟩) ?_
      refine Det.nil 34 (l := [(0, _), (4, _), (10, _), (13, _), (86, _), (87, _)]) (.old (by (conv => lhs; whnf) <;> rfl) (by decide +kernel) (.old (by (conv => lhs; whnf) <;> rfl) (by decide +kernel) (.old (by (conv => lhs; whnf) <;> rfl) (by decide +kernel) (.new 33 0 (by decide +kernel) rfl rfl (.old (by (conv => lhs; whnf) <;> rfl) (by decide +kernel) (.old (by (conv => lhs; whnf) <;> rfl) (by decide +kernel) .nil)))))) (fun e_ => ?_)
      refine T.seq ?_
      refine T.drawDet' mixed (by decide +kernel) ?_
      refine Det.cons 0 (ins := [(10, _)]) (.old (by (conv => lhs; whnf) <;> rfl) (by decide +kernel) .nil) (fun e_ => .inl ⟨rfl, V1.t (V1.indexAddrA ty_75 sz_47 rfl rfl (by decide) (by decide)) ⟨rfl, rfl⟩⟩) ?_
      refine Det.cons 1 (ins := [(124, _)]) (.new 0 0 (by decide +kernel) rfl rfl .nil) (fun e_ => .inl ⟨rfl, V1.t (V1.load1 one_47 rfl (.own (by repeat (first | exact Find.here | assumption | apply Find.there | apply Find.far)) (by rfl))) ⟨rfl, rfl⟩⟩) ?_
      refine Det.cons 2 (ins := [(125, _)]) (v := w64 (rotr ((rnds T512 WW st i).a) 28)) (.new 1 0 (by decide +kernel) rfl rfl .nil) (fun e_ => .inl ⟨rfl, ?_⟩) ?_
      · refine T1.call0 has_54 rfl (fun w hs => RotL64_any _ _ w) (fun v hv => ?_)
        rw [RL64_28] at hv
        subst hv
        exact ⟨rfl, rfl⟩
      refine Det.cons 3 (ins := [(10, _)]) (.old (by (conv => lhs; whnf) <;> rfl) (by decide +kernel) .nil) (fun e_ => .inl ⟨rfl, V1.t (V1.indexAddrA ty_75 sz_47 rfl rfl (by decide) (by decide)) ⟨rfl, rfl⟩⟩) ?_
      refine Det.cons 4 (ins := [(127, _)]) (.new 3 0 (by decide +kernel) rfl rfl .nil) (fun e_ => .inl ⟨rfl, V1.t (V1.load1 one_47 rfl (.own (by repeat (first | exact Find.here | assumption | apply Find.there | apply Find.far)) (by rfl))) ⟨rfl, rfl⟩⟩) ?_
      refine Det.cons 5 (ins := [(128, _)]) (v := w64 (rotr ((rnds T512 WW st i).a) 34)) (.new 4 0 (by decide +kernel) rfl rfl .nil) (fun e_ => .inl ⟨rfl, ?_⟩) ?_
      · refine T1.call0 has_54 rfl (fun w hs => RotL64_any _ _ w) (fun v hv => ?_)
        rw [RL64_34] at hv
        subst hv
        exact ⟨rfl, rfl⟩
      refine Det.cons 6 (ins := [(126, _), (129, _)]) (.new 2 3 (by decide +kernel) rfl rfl (.new 5 0 (by decide +kernel) rfl rfl .nil)) (fun e_ => .inl ⟨rfl, V1.t (V1.xorW u64U rfl rfl) ⟨rfl, rfl⟩⟩) ?_
      refine Det.cons 7 (ins := [(10, _)]) (.old (by (conv => lhs; whnf) <;> rfl) (by decide +kernel) .nil) (fun e_ => .inl ⟨rfl, V1.t (V1.indexAddrA ty_75 sz_47 rfl rfl (by decide) (by decide)) ⟨rfl, rfl⟩⟩) ?_
      refine Det.cons 8 (ins := [(131, _)]) (.new 7 0 (by decide +kernel) rfl rfl .nil) (fun e_ => .inl ⟨rfl, V1.t (V1.load1 one_47 rfl (.own (by repeat (first | exact Find.here | assumption | apply Find.there | apply Find.far)) (by rfl))) ⟨rfl, rfl⟩⟩) ?_
      refine Det.cons 9 (ins := [(132, _)]) (v := w64 (rotr ((rnds T512 WW st i).a) 39)) (.new 8 0 (by decide +kernel) rfl rfl .nil) (fun e_ => .inl ⟨rfl, ?_⟩) ?_
      · refine T1.call0 has_54 rfl (fun w hs => RotL64_any _ _ w) (fun v hv => ?_)
        rw [RL64_39] at hv
        subst hv
        exact ⟨rfl, rfl⟩
      refine Det.cons 10 (ins := [(130, _), (133, _)]) (.new 6 3 (by decide +kernel) rfl rfl (.new 9 0 (by decide +kernel) rfl rfl .nil)) (fun e_ => .inl ⟨rfl, V1.t (V1.xorW u64U rfl rfl) ⟨rfl, rfl⟩⟩) ?_
      refine Det.cons 11 (ins := [(10, _)]) (.old (by (conv => lhs; whnf) <;> rfl) (by decide +kernel) .nil) (fun e_ => .inl ⟨rfl, V1.t (V1.indexAddrA ty_75 sz_47 rfl rfl (by decide) (by decide)) ⟨rfl, rfl⟩⟩) ?_
      refine Det.cons 12 (ins := [(135, _)]) (.new 11 0 (by decide +kernel) rfl rfl .nil) (fun e_ => .inl ⟨rfl, V1.t (V1.load1 one_47 rfl (.own (by repeat (first | exact Find.here | assumption | apply Find.there | apply Find.far)) (by rfl))) ⟨rfl, rfl⟩⟩) ?_
      refine Det.cons 13 (ins := [(10, _)]) (.old (by (conv => lhs; whnf) <;> rfl) (by decide +kernel) .nil) (fun e_ => .inl ⟨rfl, V1.t (V1.indexAddrA ty_75 sz_47 rfl rfl (by decide) (by decide)) ⟨rfl, rfl⟩⟩) ?_
      refine Det.cons 14 (ins := [(137, _)]) (.new 13 0 (by decide +kernel) rfl rfl .nil) (fun e_ => .inl ⟨rfl, V1.t (V1.load1 one_47 rfl (.own (by repeat (first | exact Find.here | assumption | apply Find.there | apply Find.far)) (by rfl))) ⟨rfl, rfl⟩⟩) ?_
      refine Det.cons 15 (ins := [(136, _), (138, _)]) (.new 12 2 (by decide +kernel) rfl rfl (.new 14 0 (by decide +kernel) rfl rfl .nil)) (fun e_ => .inl ⟨rfl, V1.t (V1.andW u64U rfl rfl) ⟨rfl, rfl⟩⟩) ?_
      refine Det.cons 16 (ins := [(10, _)]) (.old (by (conv => lhs; whnf) <;> rfl) (by decide +kernel) .nil) (fun e_ => .inl ⟨rfl, V1.t (V1.indexAddrA ty_75 sz_47 rfl rfl (by decide) (by decide)) ⟨rfl, rfl⟩⟩) ?_
      refine Det.cons 17 (ins := [(140, _)]) (.new 16 0 (by decide +kernel) rfl rfl .nil) (fun e_ => .inl ⟨rfl, V1.t (V1.load1 one_47 rfl (.own (by repeat (first | exact Find.here | assumption | apply Find.there | apply Find.far)) (by rfl))) ⟨rfl, rfl⟩⟩) ?_
      refine Det.cons 18 (ins := [(10, _)]) (.old (by (conv => lhs; whnf) <;> rfl) (by decide +kernel) .nil) (fun e_ => .inl ⟨rfl, V1.t (V1.indexAddrA ty_75 sz_47 rfl rfl (by decide) (by decide)) ⟨rfl, rfl⟩⟩) ?_
      refine Det.cons 19 (ins := [(142, _)]) (.new 18 0 (by decide +kernel) rfl rfl .nil) (fun e_ => .inl ⟨rfl, V1.t (V1.load1 one_47 rfl (.own (by repeat (first | exact Find.here | assumption | apply Find.there | apply Find.far)) (by rfl))) ⟨rfl, rfl⟩⟩) ?_
      refine Det.cons 20 (ins := [(141, _), (143, _)]) (.new 17 2 (by decide +kernel) rfl rfl (.new 19 0 (by decide +kernel) rfl rfl .nil)) (fun e_ => .inl ⟨rfl, V1.t (V1.andW u64U rfl rfl) ⟨rfl, rfl⟩⟩) ?_
      refine Det.cons 21 (ins := [(139, _), (144, _)]) (.new 15 5 (by decide +kernel) rfl rfl (.new 20 0 (by decide +kernel) rfl rfl .nil)) (fun e_ => .inl ⟨rfl, V1.t (V1.xorW u64U rfl rfl) ⟨rfl, rfl⟩⟩) ?_
      refine Det.cons 22 (ins := [(10, _)]) (.old (by (conv => lhs; whnf) <;> rfl) (by decide +kernel) .nil) (fun e_ => .inl ⟨rfl, V1.t (V1.indexAddrA ty_75 sz_47 rfl rfl (by decide) (by decide)) ⟨rfl, rfl⟩⟩) ?_
      refine Det.cons 23 (ins := [(146, _)]) (.new 22 0 (by decide +kernel) rfl rfl .nil) (fun e_ => .inl ⟨rfl, V1.t (V1.load1 one_47 rfl (.own (by repeat (first | exact Find.here | assumption | apply Find.there | apply Find.far)) (by rfl))) ⟨rfl, rfl⟩⟩) ?_
      refine Det.cons 24 (ins := [(10, _)]) (.old (by (conv => lhs; whnf) <;> rfl) (by decide +kernel) .nil) (fun e_ => .inl ⟨rfl, V1.t (V1.indexAddrA ty_75 sz_47 rfl rfl (by decide) (by decide)) ⟨rfl, rfl⟩⟩) ?_
      refine Det.cons 25 (ins := [(148, _)]) (.new 24 0 (by decide +kernel) rfl rfl .nil) (fun e_ => .inl ⟨rfl, V1.t (V1.load1 one_47 rfl (.own (by repeat (first | exact Find.here | assumption | apply Find.there | apply Find.far)) (by rfl))) ⟨rfl, rfl⟩⟩) ?_
      refine Det.cons 26 (ins := [(147, _), (149, _)]) (.new 23 2 (by decide +kernel) rfl rfl (.new 25 0 (by decide +kernel) rfl rfl .nil)) (fun e_ => .inl ⟨rfl, V1.t (V1.andW u64U rfl rfl) ⟨rfl, rfl⟩⟩) ?_
      refine Det.cons 27 (ins := [(145, _), (150, _)]) (.new 21 5 (by decide +kernel) rfl rfl (.new 26 0 (by decide +kernel) rfl rfl .nil)) (fun e_ => .inl ⟨rfl, V1.t (V1.xorW u64U rfl rfl) ⟨rfl, rfl⟩⟩) ?_
      refine Det.cons 28 (ins := [(134, _), (151, _)]) (.new 10 17 (by decide +kernel) rfl rfl (.new 27 0 (by decide +kernel) rfl rfl .nil)) (fun e_ => .inl ⟨rfl, V1.t (V1.addW u64U rfl rfl) ⟨rfl, rfl⟩⟩) ?_
      refine Det.cons 29 (ins := [(152, _)]) (.new 28 0 (by decide +kernel) rfl rfl .nil) (fun e_ => .inl ⟨rfl, V1.t (V1.assign' (by (conv => lhs; whnf) <;> rfl)) ⟨rfl, rfl⟩⟩) ?_
      refine Det.nil 30 (l := [(0, _), (4, _), (10, _), (13, _), (14, _), (86, _), (87, _)]) (.old (by (conv => lhs; whnf) <;> rfl) (by decide +kernel) (.old (by (conv => lhs; whnf) <;> rfl) (by decide +kernel) (.old (by (conv => lhs; whnf) <;> rfl) (by decide +kernel) (.old (by (conv => lhs; whnf) <;> rfl) (by decide +kernel) (.new 29 0 (by decide +kernel) rfl rfl (.old (by (conv => lhs; whnf) <;> rfl) (by decide +kernel) (.old (by (conv => lhs; whnf) <;> rfl) (by decide +kernel) .nil))))))) (fun e_ => ?_)
      refine T.region ?_
      refine TL.cons rfl (V1.t (V1.move' (by (conv => lhs; whnf) <;> rfl)) ?_)
      refine TL.cons rfl (V1.t (V1.move' (by (conv => lhs; whnf) <;> rfl)) ?_)
      refine TL.cons rfl (V1.t (V1.addW u64U rfl rfl) ?_)
      refine TL.cons rfl (V1.t (V1.indexAddrA ty_75 sz_47 rfl rfl (by decide) (by decide)) ?_)
      refine TL.cons rfl (V1.t (V1.load1 one_47 rfl (.own (by repeat (first | exact Find.here | assumption | apply Find.there | apply Find.far)) (by rfl))) ?_)
      refine TL.cons rfl (V1.t (V1.indexAddrA ty_75 sz_47 rfl rfl (by decide) (by decide)) ?_)
      refine TL.cons rfl (V1.t (V1.load1 one_47 rfl (.own (by repeat (first | exact Find.here | assumption | apply Find.there | apply Find.far)) (by rfl))) ?_)
      refine TL.cons rfl (V1.t (V1.indexAddrA ty_75 sz_47 rfl rfl (by decide) (by decide)) ?_)
      refine TL.cons rfl (V1.t (V1.load1 one_47 rfl (.own (by repeat (first | exact Find.here | assumption | apply Find.there | apply Find.far)) (by rfl))) ?_)
      refine TL.cons rfl (V1.t (V1.indexAddrA ty_75 sz_47 rfl rfl (by decide) (by decide)) ?_)
      refine TL.cons rfl (V1.t (V1.load1 one_47 rfl (.own (by repeat (first | exact Find.here | assumption | apply Find.there | apply Find.far)) (by rfl))) ?_)
      refine TL.cons rfl (V1.t (V1.move' (by (conv => lhs; whnf) <;> rfl)) ?_)
      refine TL.cons rfl (V1.t (V1.addW u64U rfl rfl) ?_)
      refine TL.cons rfl (V1.t (V1.indexAddrA ty_75 sz_47 rfl rfl (by decide) (by decide)) ?_)
      refine TL.cons rfl (V1.t (V1.load1 one_47 rfl (.own (by repeat (first | exact Find.here | assumption | apply Find.there | apply Find.far)) (by rfl))) ?_)
      refine TL.cons rfl (V1.t (V1.indexAddrA ty_75 sz_47 rfl rfl (by decide) (by decide)) ?_)
      refine TL.cons rfl (V1.t (V1.load1 one_47 rfl (.own (by repeat (first | exact Find.here | assumption | apply Find.there | apply Find.far)) (by rfl))) ?_)
      refine TL.cons rfl (V1.t (V1.indexAddrA ty_75 sz_47 rfl rfl (by decide) (by decide)) ?_)
      refine TL.cons rfl (V1.t (V1.load1 one_47 rfl (.own (by repeat (first | exact Find.here | assumption | apply Find.there | apply Find.far)) (by rfl))) ?_)
      refine TL.cons rfl (V1.t (V1.buildFA ty_75 sz_47 zr_75 (.one rfl (by (conv => lhs; whnf) <;> rfl) rfl (.one rfl (by (conv => lhs; whnf) <;> rfl) rfl (.one rfl (by (conv => lhs; whnf) <;> rfl) rfl (.one rfl (by (conv => lhs; whnf) <;> rfl) rfl (.one rfl (by (conv => lhs; whnf) <;> rfl) rfl (.one rfl (by (conv => lhs; whnf) <;> rfl) rfl (.one rfl (by (conv => lhs; whnf) <;> rfl) rfl (.one rfl (by (conv => lhs; whnf) <;> rfl) rfl .nil)))))))) (by repeat (first | exact FillL.nil | exact SetN.done | apply SetN.here | apply SetN.there | apply FillL.cons))) ?_)
      refine TL.cons rfl (T1.storeN rfl rfl sz_75 (ones rfl) (by repeat (first | exact Sub.one | apply Sub.there | apply Sub.far)) (by rfl) (by rfl) ?_)
      refine TL.nil ?_
      refine T.live (l := [(0, _), (4, _), (10, _), (86, _), (87, _)]) (.cons (by (conv => lhs; whnf) <;> rfl) (.cons (by (conv => lhs; whnf) <;> rfl) (.cons (by (conv => lhs; whnf) <;> rfl) (.cons (by (conv => lhs; whnf) <;> rfl) (.cons (by (conv => lhs; whnf) <;> rfl) .nil))))) (fun e_ => ?_)
      refine T.region ?_
      refine TL.cons rfl (V1.t (V1.add rfl rfl (wrap_i64 _ (by omega) (by omega))) ?_)
      refine TL.cons rfl (V1.t (V1.move' (by (conv => lhs; whnf) <;> rfl)) ?_)
      refine TL.nil ?_
      exact ⟨i + 1, _, _, (by simp only; omega), (.cons rfl .nil), (.cons rfl (.cons rfl (.cons rfl (.cons rfl .nil)))), (by repeat (first | exact Take.nil | apply Take.one (by repeat (first | exact Pick.here | apply Pick.there | apply Pick.far)) | apply Take.seg (by repeat (first | exact PickS.last | exact PickS.one | exact PickS.here | exact PickS.nil | apply PickS.there | apply PickS.far)) | exact Take.last (by repeat (first | exact PickS.last | exact PickS.one | exact PickS.here | exact PickS.nil | apply PickS.there | apply PickS.far)))), ⟨rfl, by omega⟩⟩
    ·
      obtain rfl : i = 80 := by omega
      refine TL.nil ?_
      refine T.seq ?_
      refine T.cond_f rfl ?_
      refine T.exit ?_
      refine T.seq ?_
      refine T.region ?_
      refine TL.cons rfl (V1.t (V1.loadN (vs := (stL (rnds T512 WW st 80)).map w64) one_75 sz_75 rfl (RdN.whole (by repeat (first | exact Find.here | assumption | apply Find.there | apply Find.far))) rfl) ?_)
      refine TL.cons rfl (V1.t (V1.move' (by (conv => lhs; whnf) <;> rfl)) ?_)
      refine TL.nil ?_
      refine T.block ?_
      refine T.loopL (σ := Nat) (l0 := [(0, _), (174, _)]) (fun x => [(175, .int .i64 (x : Nat))]) (fun x L => L = ⟨bh, 0, s :: w64 n :: (((stL (addR st (rnds T512 WW st 80))).map w64).take x ++ ((stL st).map w64).drop x), 10⟩ :: ⟨bp, op, l.map byteV, size⟩ :: G ∧ x ≤ 8) (fun x => 8 - x) 0 (.cons rfl .nil) (.cons (by (conv => lhs; whnf) <;> rfl) (.cons (by (conv => lhs; whnf) <;> rfl) .nil)) (by repeat (first | exact Take.nil | apply Take.one (by repeat (first | exact Pick.here | apply Pick.there | apply Pick.far)) | apply Take.seg (by repeat (first | exact PickS.last | exact PickS.one | exact PickS.here | exact PickS.nil | apply PickS.there | apply PickS.far)) | exact Take.last (by repeat (first | exact PickS.last | exact PickS.one | exact PickS.here | exact PickS.nil | apply PickS.there | apply PickS.far)))) (⟨rfl, Nat.zero_le _⟩) ?_
      rintro i e_ L ⟨rfl, hi⟩
      refine T.seq ?_
      refine T.region ?_
      refine TL.cons rfl (T1.ltI_split rfl rfl (fun h22_0 => ?_) (fun h22_0 => ?_))
      ·
        refine TL.nil ?_
        refine T.seq ?_
        refine T.cond_t rfl ?_
        refine T.skip ?_
        refine T.seq ?_
        refine T.block ?_
        refine T.seq ?_
        refine T.region ?_
        refine TL.cons rfl (V1.t (V1.move' (by (conv => lhs; whnf) <;> rfl)) ?_)
        refine TL.cons rfl (V1.t (V1.indexA ty_75 sz_47 rfl rfl (by omega) (by omega) (fun w => run_part1 one_47 (show ((stL (rnds T512 WW st 80)).map w64).toArray[i * 1]? = some (w64 ((stL (rnds T512 WW st 80)).getD i 0)) from stL_arr64 (by omega)) w)) ?_)
        refine TL.cons rfl (V1.t (V1.assign' (by (conv => lhs; whnf) <;> rfl)) ?_)
        refine TL.cons rfl (V1.t (V1.assign' (by (conv => lhs; whnf) <;> rfl)) ?_)
        refine TL.nil ?_
        refine T.drawTail 10 mixed (by decide +kernel) (by rfl) (by decide +kernel) rfl ?_
        refine Det.cons 0 (ins := [(0, _)]) (.old (by (conv => lhs; whnf) <;> rfl) (by decide +kernel) .nil) (fun e_ => .inl ⟨rfl, V1.t (V1.move' (by (conv => lhs; whnf) <;> rfl)) ⟨rfl, rfl⟩⟩) ?_
        refine Det.cons 1 (ins := [(15, _)]) (.old (by (conv => lhs; whnf) <;> rfl) (by decide +kernel) .nil) (fun e_ => .inl ⟨rfl, V1.t (V1.move' (by (conv => lhs; whnf) <;> rfl)) ⟨rfl, rfl⟩⟩) ?_
        refine Det.cons 2 (ins := [(179, _)]) (.new 0 1 (by decide +kernel) rfl rfl .nil) (fun e_ => .inl ⟨rfl, V1.t (V1.nilCheck rfl) ⟨rfl, rfl⟩⟩) ?_
        refine Det.cons 3 (ins := [(181, _)]) (.new 2 0 (by decide +kernel) rfl rfl .nil) (fun e_ => .inl ⟨rfl, V1.t (V1.fieldAddr fl_79_1 rfl) ⟨rfl, rfl⟩⟩) ?_
        refine Det.cons 4 (ins := [(180, _), (182, _)]) (.new 1 2 (by decide +kernel) rfl rfl (.new 3 0 (by decide +kernel) rfl rfl .nil)) (fun e_ => .inl ⟨rfl, V1.t (V1.indexAddrA ty_75 sz_47 rfl rfl (by omega) (by omega)) ⟨rfl, rfl⟩⟩) ?_
        refine Det.cons 5 (ins := [(183, _)]) (.new 4 0 (by decide +kernel) rfl rfl .nil) (fun e_ => .inl ⟨rfl, V1.t (V1.load1 one_47 rfl (show Rd _ _ ⟨bh, 0 + 2 + i * 1, none⟩ (w64 ((stL st).getD i 0)) from by rw [show 0 + 2 + i * 1 = 0 + (i + 2) from by omega]; exact Rd.at (by repeat (first | exact Find.here | assumption | apply Find.there | apply Find.far)) (show (s :: w64 n :: (((stL (addR st (rnds T512 WW st 80))).map w64).take i ++ ((stL st).map w64).drop i))[i + 2]? = some (w64 ((stL st).getD i 0)) from (mix_get (by simp [stL]) (by simp [stL]; omega)).trans (stL_map64 (by omega))))) ⟨rfl, rfl⟩⟩) ?_
        refine Det.cons 6 (ins := [(16, _)]) (.old (by (conv => lhs; whnf) <;> rfl) (by decide +kernel) .nil) (fun e_ => .inl ⟨rfl, V1.t (V1.move' (by (conv => lhs; whnf) <;> rfl)) ⟨rfl, rfl⟩⟩) ?_
        refine Det.cons 7 (ins := [(184, _), (185, _)]) (.new 5 1 (by decide +kernel) rfl rfl (.new 6 0 (by decide +kernel) rfl rfl .nil)) (fun e_ => .inl ⟨rfl, V1.t (V1.addW u64U rfl rfl) ⟨rfl, rfl⟩⟩) ?_
        refine Det.cons 8 (ins := [(179, _)]) (.new 0 7 (by decide +kernel) rfl rfl .nil) (fun e_ => .inl ⟨rfl, V1.t (V1.nilCheck rfl) ⟨rfl, rfl⟩⟩) ?_
        refine Det.cons 9 (ins := [(187, _)]) (.new 8 0 (by decide +kernel) rfl rfl .nil) (fun e_ => .inl ⟨rfl, V1.t (V1.fieldAddr fl_79_1 rfl) ⟨rfl, rfl⟩⟩) ?_
        refine Det.nil 10 (l := [(0, _), (174, _), (175, _), (180, _), (186, _), (188, _)]) (.old (by (conv => lhs; whnf) <;> rfl) (by decide +kernel) (.old (by (conv => lhs; whnf) <;> rfl) (by decide +kernel) (.old (by (conv => lhs; whnf) <;> rfl) (by decide +kernel) (.new 1 8 (by decide +kernel) rfl rfl (.new 7 2 (by decide +kernel) rfl rfl (.new 9 0 (by decide +kernel) rfl rfl .nil)))))) (fun e_ => ?_)
        refine (show TU _ _ _ 2 _ _ _ from ?_)
        refine TU.one 10 (by decide +kernel) rfl rfl (V1.t (V1.indexAddrA ty_75 sz_47 rfl rfl (by omega) (by omega)) ?_)
        refine TU.one 11 (by decide +kernel) rfl rfl (T1.storeE (o := 0 + 2 + i * 1) (cells := s :: w64 n :: (((stL (addR st (rnds T512 WW st 80))).map w64).take i ++ ((stL st).map w64).drop i)) (cells' := s :: w64 n :: (((stL (addR st (rnds T512 WW st 80))).map w64).take (i + 1) ++ ((stL st).map w64).drop (i + 1))) rfl (congrArg w64 (addR_get st (rnds T512 WW st 80) i).symm) sz_47 rfl (by rw [show 0 + 2 + i * 1 - 0 = i + 2 from by omega]; show s :: w64 n :: List.set _ i _ = _; rw [mix_set (by simp [stL]) (stL_map64 (by omega))]) (by repeat (first | exact Sub.one | apply Sub.there | apply Sub.far)) (Nat.zero_le _) (by simp only [List.length_cons, List.length_append, List.length_take, List.length_drop, List.length_map]; simp only [stL, List.length_cons, List.length_nil]; omega) ?_)
        refine TU.done (by decide +kernel) ?_
        refine T.region ?_
        refine TL.cons rfl (V1.t (V1.add rfl rfl (wrap_i64 _ (by omega) (by omega))) ?_)
        refine TL.cons rfl (V1.t (V1.move' (by (conv => lhs; whnf) <;> rfl)) ?_)
        refine TL.nil ?_
        exact ⟨i + 1, _, _, (by simp only; omega), (.cons rfl .nil), (.cons rfl (.cons rfl .nil)), (by repeat (first | exact Take.nil | apply Take.one (by repeat (first | exact Pick.here | apply Pick.there | apply Pick.far)) | apply Take.seg (by repeat (first | exact PickS.last | exact PickS.one | exact PickS.here | exact PickS.nil | apply PickS.there | apply PickS.far)) | exact Take.last (by repeat (first | exact PickS.last | exact PickS.one | exact PickS.here | exact PickS.nil | apply PickS.there | apply PickS.far)))), ⟨rfl, by omega⟩⟩
      ·
        obtain rfl : i = 8 := by omega
        rw [mix_end64]
        refine TL.nil ?_
        refine T.seq ?_
        refine T.cond_f rfl ?_
        refine T.exit ?_
        -- the end
        exact ⟨_, ⟨bh, 0, [s, w64 n, w64 (addR st (rnds T512 WW st 80)).a, w64 (addR st (rnds T512 WW st 80)).b, w64 (addR st (rnds T512 WW st 80)).c, w64 (addR st (rnds T512 WW st 80)).d, w64 (addR st (rnds T512 WW st 80)).e, w64 (addR st (rnds T512 WW st 80)).f, w64 (addR st (rnds T512 WW st 80)).g, w64 (addR st (rnds T512 WW st 80)).h], 10⟩ :: ⟨bp, op, l.map byteV, size⟩ :: G, _, .nil, (by repeat (first | exact Take.nil | apply Take.one (by repeat (first | exact Pick.here | apply Pick.there | apply Pick.far)) | apply Take.seg (by repeat (first | exact PickS.last | exact PickS.one | exact PickS.here | exact PickS.nil | apply PickS.there | apply PickS.far)) | exact Take.last (by repeat (first | exact PickS.last | exact PickS.one | exact PickS.here | exact PickS.nil | apply PickS.there | apply PickS.far)))), [⟨bh, 0, [s, w64 n, w64 (addR st (rnds T512 WW st 80)).a, w64 (addR st (rnds T512 WW st 80)).b, w64 (addR st (rnds T512 WW st 80)).c, w64 (addR st (rnds T512 WW st 80)).d, w64 (addR st (rnds T512 WW st 80)).e, w64 (addR st (rnds T512 WW st 80)).f, w64 (addR st (rnds T512 WW st 80)).g, w64 (addR st (rnds T512 WW st 80)).h], 10⟩, ⟨bp, op, l.map byteV, size⟩], rfl, by rw [hB]⟩

theorem blockC512 : BlockC T512 w64 34 := fun w0 bh bp op size cap s n st l hl hcap => block512_any w0 bh bp op size cap s n st l hl hcap

end Go.Proofs.Ytdgbckfnamiebaa.S
