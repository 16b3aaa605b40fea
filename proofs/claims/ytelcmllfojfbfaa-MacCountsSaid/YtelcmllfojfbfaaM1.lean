/- A sum with a key: its making and its sum. -/
import Derived.Test.YtelcmllfojfbfaaSB
namespace Go.Proofs.Ytelcmllfojfbfaa.S
open Go.RowKit

open Sh
/-- A key, filled up to a block. -/
def keyOf (key : List UInt8) : List UInt8 := if 64 < key.length then sha T256 key else key
def kpad (key : List UInt8) : List UInt8 := keyOf key ++ List.replicate (64 - (keyOf key).length) 0
def ipad (key : List UInt8) : List UInt8 := (kpad key).map (· ^^^ 54)
def opad (key : List UInt8) : List UInt8 := (kpad key).map (· ^^^ 92)
/-- The sum with a key. -/
def hmac (key m : List UInt8) : List UInt8 := sha T256 (opad key ++ sha T256 (ipad key ++ m))
theorem keyOf_len (key : List UInt8) : (keyOf key).length ≤ 64 := by
  unfold keyOf
  split
  · rw [sha_len]; decide
  · omega
theorem kpad_len (key : List UInt8) : (kpad key).length = 64 := by
  unfold kpad
  have := keyOf_len key
  rw [List.length_append, List.length_replicate]; omega
theorem ipad_len (key : List UInt8) : (ipad key).length = 64 := by unfold ipad; rw [List.length_map, kpad_len]
theorem opad_len (key : List UInt8) : (opad key).length = 64 := by unfold opad; rw [List.length_map, kpad_len]
theorem ipad_get {key : List UInt8} {i : Nat} (h : i < 64) : (ipad key)[i]? = some ((kpad key).getD i 0 ^^^ 54) := by
  unfold ipad
  rw [List.getElem?_map, getD_get 0 (by rw [kpad_len]; exact h)]; rfl
theorem opad_get {key : List UInt8} {i : Nat} (h : i < 64) : (opad key)[i]? = some ((kpad key).getD i 0 ^^^ 92) := by
  unfold opad
  rw [List.getElem?_map, getD_get 0 (by rw [kpad_len]; exact h)]; rfl
theorem kpad_put {k key : List UInt8} (hk : k = keyOf key) : putN (List.replicate 64 (.int .u8 0)) 0 (k.map byteV) = (kpad key).map byteV := by
  subst hk
  unfold putN kpad
  rw [List.take_zero, List.nil_append, Nat.zero_add, List.length_map, List.drop_replicate, List.map_append, List.map_replicate]; rfl
theorem arr_get {l : List UInt8} {i : Nat} (h : i < l.length) : (l.map byteV).toArray[i * 1]? = some (byteV (l.getD i 0)) := by
  rw [Nat.mul_one, List.getElem?_toArray, List.getElem?_map, getD_get 0 h]; rfl
theorem T1.copyS {C : Ctx} {K : Env → List Blk → Prop} {e : Env} {L : List Blk} {dst : Option Tmp} {ty : TypeId} {pos : String} {after : Array Edge} {guard : Option (Nat × Bool)} {x y : Operand} {t yt el : TypeId} {n len cap b off size : Nat} {v : Value} {cells new : List Value} {L' : List Blk} (hT : C.P.underlying t = some (.slice el)) (hk : SizeIs C.P el 1)
    (hx : ev C.n e x = .slice (some ⟨b, off, none⟩) len cap) (hyv : ev C.n e y = v) (hsrc : Src C L 1 v n new) (hone : ∀ u ∈ new, one u = true) (hn : n ≤ len) (h2 : n ≤ cells.length) (hu : Sub L [⟨b, off, cells, size⟩] L' [⟨b, off, putN cells 0 new, size⟩]) (kk : K (putO e dst (.int .i64 n)) L') :
    T1 C ⟨dst, .call ⟨.builtin .copy, (List.toArray [x, y]), (List.toArray [t, yt])⟩, ty, pos, after, guard⟩ K e L :=
  T1.copy (cells := cells) hT hk hx hyv n (Nat.min_eq_left hn).symm (fun w => run_lenOf hsrc w) (fun w hs => run_firstCells hsrc hs) hsrc.len hone (Nat.le_refl _) (by rw [hsrc.len]; omega) (by rw [Nat.sub_self]; exact hu) kk
theorem Src.run_len {C : Ctx} {L : List Blk} {v : Value} {n : Nat} {vs : List Value} (h : Src C L 1 v n vs) (w : World) : (Builtin.lenOf v).run C.P w = .ok n w := run_lenOf h w

theorem part64 {w0 : World} {Ps : List Blk} {b n c size : Nat} {p : List UInt8} (hB : (⟨b, 0, p.map byteV, size⟩ : Blk) ∈ Ps) (hn : p.length = n) : PartR w0 Ps (.slice (some ⟨b, 0, none⟩) n c) p := by
  subst hn; exact PartR.front hB (by rw [List.take_of_length_le (by rw [List.length_map]; exact Nat.le_refl _)])

set_option maxRecDepth 100000 in
set_option maxHeartbeats 4000000 in
theorem macNew_any (w0 : World) (kv : Value) (key : List UInt8) (Ps : List Blk) (hp : PartR w0 Ps kv key) (hl : key.length ≤ 200000000000000) : FnX P 27 [kv] w0 [] Ps (fun v Y => ∃ bm bh X', v = .pointer (some ⟨bm, 0, none⟩) ∧ Y = ⟨bm, 0, .pointer (some ⟨bh, 0, none⟩) :: (opad key).map byteV, 65⟩ :: (X' ++ Ps) ∧ HB T256 w32 bh (ipad key) X') := by
  obtain ⟨ka, kc, rfl⟩ := hp.form
  refine FnX.of 46 [.tmp 2] Go.Proofs.Try.func27 rfl rfl rfl rfl (fun G => ?_)
  refine T.seq ?_
  refine T.region ?_
  refine TL.cons rfl (V1.t (V1.assign' (by (conv => lhs; whnf) <;> rfl)) ?_)
  refine TL.nil ?_
  refine T.seq ?_
  refine T.region ?_
  refine TL.cons rfl (T1.allocN (zl := List.replicate 64 (.int .u8 0)) 64 zr_30 rfl (fun b3 => ?_))
  refine TL.nil ?_
  refine T.seq ?_
  refine T.region ?_
  refine TL.cons rfl (T1.callN has_35 rfl (fun w hs => New256_any w) (fun v X hY => ?_))
  obtain ⟨bh, rfl, hb⟩ := hY
  refine TL.cons rfl (V1.t (V1.buildF pl_42 zr_42 (.one rfl (by (conv => lhs; whnf) <;> rfl) rfl .nil) (by repeat (first | exact FillL.nil | exact SetN.done | apply SetN.here | apply SetN.there | apply FillL.cons))) ?_)
  refine TL.cons rfl (T1.boxN (vs := .pointer (some ⟨bh, 0, none⟩) :: List.replicate 64 (.int .u8 0)) 65 rfl rfl (fun b10 => ?_))
  refine TL.cons rfl (V1.t (V1.assign' (by (conv => lhs; whnf) <;> rfl)) ?_)
  refine TL.nil ?_
  refine T.seq ?_
  refine T.seq ?_
  refine T.region ?_
  refine TL.cons rfl (V1.t (V1.move' (by (conv => lhs; whnf) <;> rfl)) ?_)
  refine TL.cons rfl (V1.t (V1.lenSl ty_22 rfl) ?_)
  refine TL.cons rfl (T1.gtI_split rfl rfl (fun h3_2 => ?_) (fun h3_2 => ?_))
  ·
    refine TL.nil ?_
    refine T.cond_t rfl ?_
    refine T.seq ?_
    refine T.region ?_
    refine TL.cons rfl (V1.t (V1.move' (by (conv => lhs; whnf) <;> rfl)) ?_)
    refine TL.cons rfl (T1.buildSl1 (os := [.tmp 14]) (vs := [.slice ka key.length kc]) ty_44 sz_22 zr_22 (by decide) rfl (.cons (by (conv => lhs; whnf) <;> rfl) .nil) rfl (by intro u hu; simp only [List.mem_cons, List.not_mem_nil, or_false] at hu; subst hu; rfl) (fun b15 => ?_))
    refine TL.cons rfl (T1.callX (X := (⟨b15, 0, [.slice ka key.length kc], 1⟩ :: Ps)) has_19 rfl (Sum256_any _ _ [key] (⟨b15, 0, [.slice ka key.length kc], 1⟩ :: Ps) (PartsR.ones (svs := [.slice ka key.length kc]) (size := 1) (by simp) rfl (one_part (hp.more (fun _ h => List.mem_cons_of_mem _ h)))) (one_len (by omega)) (show 1 < 9223372036854775807 by decide) (by simp; omega)) (by repeat (first | exact Take.nil | apply Take.one (by repeat (first | exact Pick.here | apply Pick.there | apply Pick.far)) | apply Take.seg (by repeat (first | exact PickS.last | exact PickS.one | exact PickS.here | exact PickS.nil | apply PickS.there | apply PickS.far)) | exact Take.last (by repeat (first | exact PickS.last | exact PickS.one | exact PickS.here | exact PickS.nil | apply PickS.there | apply PickS.far)))) (fun v Y hY => ?_))
    obtain ⟨rfl, rfl⟩ := hY
    simp only [List.cons_append, List.append_assoc]
    rw [show ([key] : List (List UInt8)).flatten = key from by simp]
    refine TL.cons rfl (T1.allocN 32 zr_26 rfl (fun b5 => ?_))
    refine TL.cons rfl (T1.storeN rfl rfl sz_26 (one_bytes _) (by repeat (first | exact Sub.one | apply Sub.there | apply Sub.far)) (by rw [List.length_map, sha_len]; rfl) (by rw [List.length_map, sha_len]) ?_)
    refine TL.nil ?_
    refine T.region ?_
    refine TL.cons rfl (V1.t (V1.sliceA ty_26 sz_5 rfl rfl rfl (by decide) (by decide) (by decide)) ?_)
    refine TL.cons rfl (V1.t (V1.assign' (by (conv => lhs; whnf) <;> rfl)) ?_)
    refine TL.nil ?_
    refine T.seq ?_
    refine T.live (l := [(0, _), (3, _), (4, _)]) (.cons (by (conv => lhs; whnf) <;> rfl) (.cons (by (conv => lhs; whnf) <;> rfl) (.cons (by (conv => lhs; whnf) <;> rfl) .nil))) (fun e_ => ?_)
    refine T.region ?_
    refine TL.cons rfl (V1.t (V1.sliceA ty_30 sz_5 rfl rfl rfl (by decide) (by decide) (by decide)) ?_)
    refine TL.cons rfl (V1.t (V1.move' (by (conv => lhs; whnf) <;> rfl)) ?_)
    refine TL.cons rfl (T1.copyS (cells := List.replicate 64 (.int .u8 0)) (off := 0) ty_22 sz_5 rfl (v := .slice (some ⟨b5, 0, none⟩) (sha T256 key).length 32) (show _ = _ from by rw [sha_len]; rfl) ((PartR.own (w0 := w0) (p := sha T256 key) (Ls := [⟨b5, 0, (sha T256 key).map byteV, 32⟩]) (Ps := [⟨b5, 0, (sha T256 key).map byteV, 32⟩]) (.inr ⟨b5, 0, (sha T256 key).length, 32, 32, rfl, by rw [List.length_map, Nat.mul_one], by rw [sha_len]; decide, by decide, rfl⟩) (fun _ h => h)).src _ rfl rfl _ (by intro B hB; simp only [List.mem_cons, List.mem_append, List.not_mem_nil, or_false] at hB ⊢; simp [hB])) (one_bytes _) (by rw [sha_len]; decide) (by rw [List.length_replicate, sha_len]; omega) (by repeat (first | exact Sub.one | apply Sub.there | apply Sub.far)) ?_)
    rw [kpad_put (key := key) (by unfold keyOf; rw [if_pos (by omega)])]
    refine TL.nil ?_
    refine T.seq ?_
    refine T.seq ?_
    refine T.region ?_
    refine TL.cons rfl (V1.t (V1.loadN one_30 sz_30 rfl (RdN.whole (cells := (kpad key).map byteV) (by repeat (first | exact Find.here | assumption | apply Find.there | apply Find.far))) (by rw [List.length_map, kpad_len])) ?_)
    refine TL.cons rfl (V1.t (V1.move' (by (conv => lhs; whnf) <;> rfl)) ?_)
    refine TL.nil ?_
    refine T.block ?_
    refine T.loopL (σ := Nat) (l0 := [(3, _), (4, _), (21, _)]) (fun x => [(22, .int .i64 (x : Nat))]) (fun x L => L = ⟨b3, 0, ((ipad key).map byteV).take x ++ ((kpad key).map byteV).drop x, 64⟩ :: ⟨b10, 0, .pointer (some ⟨bh, 0, none⟩) :: (((opad key).map byteV).take x ++ (List.replicate 64 (.int .u8 0)).drop x), 65⟩ :: (X ++ (Ps ++ G)) ∧ x ≤ 64) (fun x => 64 - x) 0 (.cons rfl .nil) (.cons (by (conv => lhs; whnf) <;> rfl) (.cons (by (conv => lhs; whnf) <;> rfl) (.cons (by (conv => lhs; whnf) <;> rfl) .nil))) (by repeat (first | exact Take.nil | apply Take.one (by repeat (first | exact Pick.here | apply Pick.there | apply Pick.far)) | apply Take.seg (by repeat (first | exact PickS.last | exact PickS.one | exact PickS.here | exact PickS.nil | apply PickS.there | apply PickS.far)) | exact Take.last (by repeat (first | exact PickS.last | exact PickS.one | exact PickS.here | exact PickS.nil | apply PickS.there | apply PickS.far)))) (⟨rfl, Nat.zero_le _⟩) ?_
    rintro i e_ L ⟨rfl, hi⟩
    refine T.seq ?_
    refine T.region ?_
    refine TL.cons rfl (T1.ltI_split rfl rfl (fun h8_0 => ?_) (fun h8_0 => ?_))
    ·
      refine TL.nil ?_
      refine T.seq ?_
      refine T.cond_t rfl ?_
      refine T.skip ?_
      refine T.seq ?_
      refine T.block ?_
      refine T.seq ?_
      refine T.region ?_
      refine TL.cons rfl (V1.t (V1.move' (by (conv => lhs; whnf) <;> rfl)) ?_)
      refine TL.cons rfl (V1.t (V1.indexA ty_30 sz_5 rfl rfl (by omega) (by omega) (fun w => run_part1 one_5 (show ((kpad key).map byteV).toArray[i * 1]? = some (byteV ((kpad key).getD i 0)) from arr_get (by rw [kpad_len]; omega)) w)) ?_)
      refine TL.cons rfl (V1.t (V1.assign' (by (conv => lhs; whnf) <;> rfl)) ?_)
      refine TL.cons rfl (V1.t (V1.assign' (by (conv => lhs; whnf) <;> rfl)) ?_)
      refine TL.nil ?_
      refine T.drawK (fun L_ => True) mixed trivial ?_
      refine TK.take 0 rfl (by decide +kernel) (by decide +kernel) (by decide +kernel) rfl (fun _ _ _ h => h) (fun L_ _ => V1.move' (by (conv => lhs; whnf) <;> rfl)) ?_
      refine TK.take 1 rfl (by decide +kernel) (by decide +kernel) (by decide +kernel) rfl (fun _ _ _ h => h) (fun L_ _ => V1.move' (by (conv => lhs; whnf) <;> rfl)) ?_
      refine TK.take 2 rfl (by decide +kernel) (by decide +kernel) (by decide +kernel) rfl (fun _ _ _ h => h) (fun L_ _ => V1.move' (by (conv => lhs; whnf) <;> rfl)) ?_
      refine TK.take 3 rfl (by decide +kernel) (by decide +kernel) (by decide +kernel) rfl (fun _ _ _ h => h) (fun L_ _ => V1.move' (by (conv => lhs; whnf) <;> rfl)) ?_
      refine TK.take 4 rfl (by decide +kernel) (by decide +kernel) (by decide +kernel) rfl (fun _ _ _ h => h) (fun L_ _ => V1.xorW (b := 54#8) u8U rfl rfl) ?_
      refine TK.take 5 rfl (by decide +kernel) (by decide +kernel) (by decide +kernel) rfl (fun _ _ _ h => h) (fun L_ _ => V1.move' (by (conv => lhs; whnf) <;> rfl)) ?_
      refine TK.take 6 rfl (by decide +kernel) (by decide +kernel) (by decide +kernel) rfl (fun _ _ _ h => h) (fun L_ _ => V1.xorW (b := 92#8) u8U rfl rfl) ?_
      refine TK.take 7 rfl (by decide +kernel) (by decide +kernel) (by decide +kernel) rfl (fun _ _ _ h => h) (fun L_ _ => V1.indexAddrA ty_30 sz_5 rfl rfl (by omega) (by omega)) ?_
      refine TK.take 9 rfl (by decide +kernel) (by decide +kernel) (by decide +kernel) rfl (fun _ _ _ h => h) (fun L_ _ => V1.nilCheck rfl) ?_
      refine TK.take 10 rfl (by decide +kernel) (by decide +kernel) (by decide +kernel) rfl (fun _ _ _ h => h) (fun L_ _ => V1.fieldAddr fl_42_1 rfl) ?_
      refine TK.one 8 (by decide +kernel) rfl rfl (T1.storeE (o := 0 + i * 1) (cells := ((ipad key).map byteV).take i ++ ((kpad key).map byteV).drop i) (cells' := ((ipad key).map byteV).take (i + 1) ++ ((kpad key).map byteV).drop (i + 1)) (v := byteV ((kpad key).getD i 0 ^^^ 54)) rfl rfl sz_5 rfl (by rw [show 0 + i * 1 - 0 = i from by omega]; exact mix_set (by rw [List.length_map, List.length_map, ipad_len, kpad_len]) (by rw [List.getElem?_map, ipad_get (by omega)]; rfl)) (by repeat (first | exact Sub.one | apply Sub.there | apply Sub.far)) (Nat.zero_le _) (by rw [List.length_append, List.length_take, List.length_drop, List.length_map, List.length_map, ipad_len, kpad_len]; omega) ?_)
      refine ⟨trivial, ?_⟩
      refine TK.take 11 rfl (by decide +kernel) (by decide +kernel) (by decide +kernel) rfl (fun _ _ _ h => h) (fun L_ _ => V1.indexAddrA ty_30 sz_5 rfl rfl (by omega) (by omega)) ?_
      refine TK.one 12 (by decide +kernel) rfl rfl (T1.storeE (o := 0 + 1 + i * 1) (cells := .pointer (some ⟨bh, 0, none⟩) :: (((opad key).map byteV).take i ++ (List.replicate 64 (.int .u8 0)).drop i)) (cells' := .pointer (some ⟨bh, 0, none⟩) :: (((opad key).map byteV).take (i + 1) ++ (List.replicate 64 (.int .u8 0)).drop (i + 1))) (v := byteV ((kpad key).getD i 0 ^^^ 92)) rfl rfl sz_5 rfl (by rw [show 0 + 1 + i * 1 - 0 = i + 1 from by omega]; show _ :: List.set _ i _ = _; rw [mix_set (by rw [List.length_map, opad_len, List.length_replicate]) (by rw [List.getElem?_map, opad_get (by omega)]; rfl)]) (by repeat (first | exact Sub.one | apply Sub.there | apply Sub.far)) (Nat.zero_le _) (by rw [List.length_cons, List.length_append, List.length_take, List.length_drop, List.length_map, opad_len, List.length_replicate]; omega) ?_)
      refine ⟨trivial, ?_⟩
      refine TD.done (by decide +kernel) ?_
      refine T.live (l := [(3, _), (4, _), (21, _), (22, _)]) (.cons (by (conv => lhs; whnf) <;> rfl) (.cons (by (conv => lhs; whnf) <;> rfl) (.cons (by (conv => lhs; whnf) <;> rfl) (.cons (by (conv => lhs; whnf) <;> rfl) .nil)))) (fun e_ => ?_)
      refine T.region ?_
      refine TL.cons rfl (V1.t (V1.add rfl rfl (wrap_i64 _ (by omega) (by omega))) ?_)
      refine TL.cons rfl (V1.t (V1.move' (by (conv => lhs; whnf) <;> rfl)) ?_)
      refine TL.nil ?_
      exact ⟨i + 1, _, _, (by simp only; omega), (.cons rfl .nil), (.cons rfl (.cons rfl (.cons rfl .nil))), (by repeat (first | exact Take.nil | apply Take.one (by repeat (first | exact Pick.here | apply Pick.there | apply Pick.far)) | apply Take.seg (by repeat (first | exact PickS.last | exact PickS.one | exact PickS.here | exact PickS.nil | apply PickS.there | apply PickS.far)) | exact Take.last (by repeat (first | exact PickS.last | exact PickS.one | exact PickS.here | exact PickS.nil | apply PickS.there | apply PickS.far)))), ⟨rfl, by omega⟩⟩
    ·
      obtain rfl : i = 64 := by omega
      rw [show ((ipad key).map byteV).take 64 ++ ((kpad key).map byteV).drop 64 = (ipad key).map byteV from by rw [List.take_of_length_le (by rw [List.length_map, ipad_len]; exact Nat.le_refl _), List.drop_of_length_le (by rw [List.length_map, kpad_len]; exact Nat.le_refl _), List.append_nil]]
      rw [show ((opad key).map byteV).take 64 ++ (List.replicate 64 (.int .u8 0)).drop 64 = (opad key).map byteV from by rw [List.take_of_length_le (by rw [List.length_map, opad_len]; exact Nat.le_refl _)]; simp]
      refine TL.nil ?_
      refine T.seq ?_
      refine T.cond_f rfl ?_
      refine T.exit ?_
      refine T.seq ?_
      refine T.drawK (fun L_ => Find L_ ⟨b10, 0, .pointer (some ⟨bh, 0, none⟩) :: (opad key).map byteV, 65⟩) mixed (by repeat (first | exact Find.here | assumption | apply Find.there | apply Find.far)) ?_
      refine TK.take 0 rfl (by decide +kernel) (by decide +kernel) (by decide +kernel) rfl (fun _ _ _ h => h) (fun L_ k1_ => V1.move' (by (conv => lhs; whnf) <;> rfl)) ?_
      refine TK.take 1 rfl (by decide +kernel) (by decide +kernel) (by decide +kernel) rfl (fun _ _ _ h => h) (fun L_ k1_ => V1.nilCheck rfl) ?_
      refine TK.take 2 rfl (by decide +kernel) (by decide +kernel) (by decide +kernel) rfl (fun _ _ _ h => h) (fun L_ k1_ => V1.fieldAddr fl_42_0 rfl) ?_
      refine TK.take 3 rfl (by decide +kernel) (by decide +kernel) (by decide +kernel) rfl (fun _ _ _ h => h) (fun L_ k1_ => V1.load1 one_40 rfl (.own (cells := .pointer (some ⟨bh, 0, none⟩) :: (opad key).map byteV) (by repeat (first | exact Find.here | assumption | apply Find.there | apply Find.far)) (by rfl))) ?_
      refine TK.take 4 rfl (by decide +kernel) (by decide +kernel) (by decide +kernel) rfl (fun _ _ _ h => h) (fun L_ k1_ => V1.sliceA ty_30 sz_5 rfl rfl rfl (by decide) (by decide) (by decide)) ?_
      refine TK.one 5 (by decide +kernel) rfl rfl (T1.buildSl1 (os := [.tmp 42]) (vs := [.slice (some ⟨b3, 0, none⟩) 64 64]) ty_44 sz_22 zr_22 (by decide) rfl (.cons (by (conv => lhs; whnf) <;> rfl) .nil) rfl (by intro u hu; simp only [List.mem_cons, List.not_mem_nil, or_false] at hu; subst hu; rfl) (fun b43 => ?_))
      refine ⟨(by repeat (first | exact Find.here | assumption | apply Find.there | apply Find.far)), ?_⟩
      refine TK.one 6 (by decide +kernel) rfl rfl (T1.callX (X := X ++ ([⟨b43, 0, [.slice (some ⟨b3, 0, none⟩) 64 64], 1⟩, ⟨b3, 0, (ipad key).map byteV, 64⟩] : List Blk)) has_28 rfl (Write256_any _ bh _ [] [ipad key] X [⟨b43, 0, [.slice (some ⟨b3, 0, none⟩) 64 64], 1⟩, ⟨b3, 0, (ipad key).map byteV, 64⟩] hb (PartsR.ones (svs := [.slice (some ⟨b3, 0, none⟩) 64 64]) (size := 1) (by simp) rfl (one_part (part64 (size := 64) (by simp) (ipad_len key)))) (one_len (by rw [ipad_len]; decide)) (show 1 < 9223372036854775807 by decide)) (by repeat (first | exact Take.nil | apply Take.one (by repeat (first | exact Pick.here | apply Pick.there | apply Pick.far)) | apply Take.seg (by repeat (first | exact PickS.last | exact PickS.one | exact PickS.here | exact PickS.nil | apply PickS.there | apply PickS.far)) | exact Take.last (by repeat (first | exact PickS.last | exact PickS.one | exact PickS.here | exact PickS.nil | apply PickS.there | apply PickS.far)))) (fun v2 Z hZ => ?_))
      obtain ⟨X', hb', rfl⟩ := hZ
      rw [show ([ipad key] : List (List UInt8)).flatten = ipad key from by simp, List.nil_append] at hb'
      simp only [List.append_assoc, List.cons_append, List.nil_append]
      refine ⟨(by repeat (first | exact Find.here | assumption | apply Find.there | apply Find.far)), ?_⟩
      refine TD.done (by decide +kernel) ?_
      refine T.seq ?_
      refine T.region ?_
      refine TL.cons rfl (V1.t (V1.move' (by (conv => lhs; whnf) <;> rfl)) ?_)
      refine TL.cons rfl (V1.t (V1.assign' (by (conv => lhs; whnf) <;> rfl)) ?_)
      refine TL.nil ?_
      refine T.ret ?_
      exact ⟨_, ⟨b10, 0, .pointer (some ⟨bh, 0, none⟩) :: (opad key).map byteV, 65⟩ :: (X' ++ (Ps ++ G)), _, .cons (.tmp (by (conv => lhs; whnf) <;> rfl)) .nil, (by repeat (first | exact Take.nil | apply Take.one (by repeat (first | exact Pick.here | apply Pick.there | apply Pick.far)) | apply Take.seg (by repeat (first | exact PickS.last | exact PickS.one | exact PickS.here | exact PickS.nil | apply PickS.there | apply PickS.far)) | exact Take.last (by repeat (first | exact PickS.last | exact PickS.one | exact PickS.here | exact PickS.nil | apply PickS.there | apply PickS.far)))), ⟨b10, 0, .pointer (some ⟨bh, 0, none⟩) :: (opad key).map byteV, 65⟩ :: (X' ++ Ps), by simp only [List.cons_append, List.append_assoc], b10, bh, X', rfl, rfl, hb'⟩
  ·
    refine TL.nil ?_
    refine T.cond_f rfl ?_
    refine T.skip ?_
    refine T.seq ?_
    refine T.region ?_
    refine TL.cons rfl (V1.t (V1.sliceA ty_30 sz_5 rfl rfl rfl (by decide) (by decide) (by decide)) ?_)
    refine TL.cons rfl (V1.t (V1.move' (by (conv => lhs; whnf) <;> rfl)) ?_)
    refine TL.cons rfl (T1.copyS (cells := List.replicate 64 (.int .u8 0)) (off := 0) ty_22 sz_5 rfl rfl (hp.src _ rfl rfl _ (by intro B hB; simp only [List.mem_cons, List.mem_append, List.not_mem_nil, or_false] at hB ⊢; simp [hB])) (one_bytes _) (show key.length ≤ 64 by omega) (by rw [List.length_replicate]; omega) (by repeat (first | exact Sub.one | apply Sub.there | apply Sub.far)) ?_)
    rw [kpad_put (key := key) (by unfold keyOf; rw [if_neg (by omega)])]
    refine TL.nil ?_
    refine T.seq ?_
    refine T.seq ?_
    refine T.region ?_
    refine TL.cons rfl (V1.t (V1.loadN one_30 sz_30 rfl (RdN.whole (cells := (kpad key).map byteV) (by repeat (first | exact Find.here | assumption | apply Find.there | apply Find.far))) (by rw [List.length_map, kpad_len])) ?_)
    refine TL.cons rfl (V1.t (V1.move' (by (conv => lhs; whnf) <;> rfl)) ?_)
    refine TL.nil ?_
    refine T.block ?_
    refine T.loopL (σ := Nat) (l0 := [(3, _), (4, _), (21, _)]) (fun x => [(22, .int .i64 (x : Nat))]) (fun x L => L = ⟨b3, 0, ((ipad key).map byteV).take x ++ ((kpad key).map byteV).drop x, 64⟩ :: ⟨b10, 0, .pointer (some ⟨bh, 0, none⟩) :: (((opad key).map byteV).take x ++ (List.replicate 64 (.int .u8 0)).drop x), 65⟩ :: (X ++ (Ps ++ G)) ∧ x ≤ 64) (fun x => 64 - x) 0 (.cons rfl .nil) (.cons (by (conv => lhs; whnf) <;> rfl) (.cons (by (conv => lhs; whnf) <;> rfl) (.cons (by (conv => lhs; whnf) <;> rfl) .nil))) (by repeat (first | exact Take.nil | apply Take.one (by repeat (first | exact Pick.here | apply Pick.there | apply Pick.far)) | apply Take.seg (by repeat (first | exact PickS.last | exact PickS.one | exact PickS.here | exact PickS.nil | apply PickS.there | apply PickS.far)) | exact Take.last (by repeat (first | exact PickS.last | exact PickS.one | exact PickS.here | exact PickS.nil | apply PickS.there | apply PickS.far)))) (⟨rfl, Nat.zero_le _⟩) ?_
    rintro i e_ L ⟨rfl, hi⟩
    refine T.seq ?_
    refine T.region ?_
    refine TL.cons rfl (T1.ltI_split rfl rfl (fun h8_0 => ?_) (fun h8_0 => ?_))
    ·
      refine TL.nil ?_
      refine T.seq ?_
      refine T.cond_t rfl ?_
      refine T.skip ?_
      refine T.seq ?_
      refine T.block ?_
      refine T.seq ?_
      refine T.region ?_
      refine TL.cons rfl (V1.t (V1.move' (by (conv => lhs; whnf) <;> rfl)) ?_)
      refine TL.cons rfl (V1.t (V1.indexA ty_30 sz_5 rfl rfl (by omega) (by omega) (fun w => run_part1 one_5 (show ((kpad key).map byteV).toArray[i * 1]? = some (byteV ((kpad key).getD i 0)) from arr_get (by rw [kpad_len]; omega)) w)) ?_)
      refine TL.cons rfl (V1.t (V1.assign' (by (conv => lhs; whnf) <;> rfl)) ?_)
      refine TL.cons rfl (V1.t (V1.assign' (by (conv => lhs; whnf) <;> rfl)) ?_)
      refine TL.nil ?_
      refine T.drawK (fun L_ => True) mixed trivial ?_
      refine TK.take 0 rfl (by decide +kernel) (by decide +kernel) (by decide +kernel) rfl (fun _ _ _ h => h) (fun L_ _ => V1.move' (by (conv => lhs; whnf) <;> rfl)) ?_
      refine TK.take 1 rfl (by decide +kernel) (by decide +kernel) (by decide +kernel) rfl (fun _ _ _ h => h) (fun L_ _ => V1.move' (by (conv => lhs; whnf) <;> rfl)) ?_
      refine TK.take 2 rfl (by decide +kernel) (by decide +kernel) (by decide +kernel) rfl (fun _ _ _ h => h) (fun L_ _ => V1.move' (by (conv => lhs; whnf) <;> rfl)) ?_
      refine TK.take 3 rfl (by decide +kernel) (by decide +kernel) (by decide +kernel) rfl (fun _ _ _ h => h) (fun L_ _ => V1.move' (by (conv => lhs; whnf) <;> rfl)) ?_
      refine TK.take 4 rfl (by decide +kernel) (by decide +kernel) (by decide +kernel) rfl (fun _ _ _ h => h) (fun L_ _ => V1.xorW (b := 54#8) u8U rfl rfl) ?_
      refine TK.take 5 rfl (by decide +kernel) (by decide +kernel) (by decide +kernel) rfl (fun _ _ _ h => h) (fun L_ _ => V1.move' (by (conv => lhs; whnf) <;> rfl)) ?_
      refine TK.take 6 rfl (by decide +kernel) (by decide +kernel) (by decide +kernel) rfl (fun _ _ _ h => h) (fun L_ _ => V1.xorW (b := 92#8) u8U rfl rfl) ?_
      refine TK.take 7 rfl (by decide +kernel) (by decide +kernel) (by decide +kernel) rfl (fun _ _ _ h => h) (fun L_ _ => V1.indexAddrA ty_30 sz_5 rfl rfl (by omega) (by omega)) ?_
      refine TK.take 9 rfl (by decide +kernel) (by decide +kernel) (by decide +kernel) rfl (fun _ _ _ h => h) (fun L_ _ => V1.nilCheck rfl) ?_
      refine TK.take 10 rfl (by decide +kernel) (by decide +kernel) (by decide +kernel) rfl (fun _ _ _ h => h) (fun L_ _ => V1.fieldAddr fl_42_1 rfl) ?_
      refine TK.one 8 (by decide +kernel) rfl rfl (T1.storeE (o := 0 + i * 1) (cells := ((ipad key).map byteV).take i ++ ((kpad key).map byteV).drop i) (cells' := ((ipad key).map byteV).take (i + 1) ++ ((kpad key).map byteV).drop (i + 1)) (v := byteV ((kpad key).getD i 0 ^^^ 54)) rfl rfl sz_5 rfl (by rw [show 0 + i * 1 - 0 = i from by omega]; exact mix_set (by rw [List.length_map, List.length_map, ipad_len, kpad_len]) (by rw [List.getElem?_map, ipad_get (by omega)]; rfl)) (by repeat (first | exact Sub.one | apply Sub.there | apply Sub.far)) (Nat.zero_le _) (by rw [List.length_append, List.length_take, List.length_drop, List.length_map, List.length_map, ipad_len, kpad_len]; omega) ?_)
      refine ⟨trivial, ?_⟩
      refine TK.take 11 rfl (by decide +kernel) (by decide +kernel) (by decide +kernel) rfl (fun _ _ _ h => h) (fun L_ _ => V1.indexAddrA ty_30 sz_5 rfl rfl (by omega) (by omega)) ?_
      refine TK.one 12 (by decide +kernel) rfl rfl (T1.storeE (o := 0 + 1 + i * 1) (cells := .pointer (some ⟨bh, 0, none⟩) :: (((opad key).map byteV).take i ++ (List.replicate 64 (.int .u8 0)).drop i)) (cells' := .pointer (some ⟨bh, 0, none⟩) :: (((opad key).map byteV).take (i + 1) ++ (List.replicate 64 (.int .u8 0)).drop (i + 1))) (v := byteV ((kpad key).getD i 0 ^^^ 92)) rfl rfl sz_5 rfl (by rw [show 0 + 1 + i * 1 - 0 = i + 1 from by omega]; show _ :: List.set _ i _ = _; rw [mix_set (by rw [List.length_map, opad_len, List.length_replicate]) (by rw [List.getElem?_map, opad_get (by omega)]; rfl)]) (by repeat (first | exact Sub.one | apply Sub.there | apply Sub.far)) (Nat.zero_le _) (by rw [List.length_cons, List.length_append, List.length_take, List.length_drop, List.length_map, opad_len, List.length_replicate]; omega) ?_)
      refine ⟨trivial, ?_⟩
      refine TD.done (by decide +kernel) ?_
      refine T.live (l := [(3, _), (4, _), (21, _), (22, _)]) (.cons (by (conv => lhs; whnf) <;> rfl) (.cons (by (conv => lhs; whnf) <;> rfl) (.cons (by (conv => lhs; whnf) <;> rfl) (.cons (by (conv => lhs; whnf) <;> rfl) .nil)))) (fun e_ => ?_)
      refine T.region ?_
      refine TL.cons rfl (V1.t (V1.add rfl rfl (wrap_i64 _ (by omega) (by omega))) ?_)
      refine TL.cons rfl (V1.t (V1.move' (by (conv => lhs; whnf) <;> rfl)) ?_)
      refine TL.nil ?_
      exact ⟨i + 1, _, _, (by simp only; omega), (.cons rfl .nil), (.cons rfl (.cons rfl (.cons rfl .nil))), (by repeat (first | exact Take.nil | apply Take.one (by repeat (first | exact Pick.here | apply Pick.there | apply Pick.far)) | apply Take.seg (by repeat (first | exact PickS.last | exact PickS.one | exact PickS.here | exact PickS.nil | apply PickS.there | apply PickS.far)) | exact Take.last (by repeat (first | exact PickS.last | exact PickS.one | exact PickS.here | exact PickS.nil | apply PickS.there | apply PickS.far)))), ⟨rfl, by omega⟩⟩
    ·
      obtain rfl : i = 64 := by omega
      rw [show ((ipad key).map byteV).take 64 ++ ((kpad key).map byteV).drop 64 = (ipad key).map byteV from by rw [List.take_of_length_le (by rw [List.length_map, ipad_len]; exact Nat.le_refl _), List.drop_of_length_le (by rw [List.length_map, kpad_len]; exact Nat.le_refl _), List.append_nil]]
      rw [show ((opad key).map byteV).take 64 ++ (List.replicate 64 (.int .u8 0)).drop 64 = (opad key).map byteV from by rw [List.take_of_length_le (by rw [List.length_map, opad_len]; exact Nat.le_refl _)]; simp]
      refine TL.nil ?_
      refine T.seq ?_
      refine T.cond_f rfl ?_
      refine T.exit ?_
      refine T.seq ?_
      refine T.drawK (fun L_ => Find L_ ⟨b10, 0, .pointer (some ⟨bh, 0, none⟩) :: (opad key).map byteV, 65⟩) mixed (by repeat (first | exact Find.here | assumption | apply Find.there | apply Find.far)) ?_
      refine TK.take 0 rfl (by decide +kernel) (by decide +kernel) (by decide +kernel) rfl (fun _ _ _ h => h) (fun L_ k1_ => V1.move' (by (conv => lhs; whnf) <;> rfl)) ?_
      refine TK.take 1 rfl (by decide +kernel) (by decide +kernel) (by decide +kernel) rfl (fun _ _ _ h => h) (fun L_ k1_ => V1.nilCheck rfl) ?_
      refine TK.take 2 rfl (by decide +kernel) (by decide +kernel) (by decide +kernel) rfl (fun _ _ _ h => h) (fun L_ k1_ => V1.fieldAddr fl_42_0 rfl) ?_
      refine TK.take 3 rfl (by decide +kernel) (by decide +kernel) (by decide +kernel) rfl (fun _ _ _ h => h) (fun L_ k1_ => V1.load1 one_40 rfl (.own (cells := .pointer (some ⟨bh, 0, none⟩) :: (opad key).map byteV) (by repeat (first | exact Find.here | assumption | apply Find.there | apply Find.far)) (by rfl))) ?_
      refine TK.take 4 rfl (by decide +kernel) (by decide +kernel) (by decide +kernel) rfl (fun _ _ _ h => h) (fun L_ k1_ => V1.sliceA ty_30 sz_5 rfl rfl rfl (by decide) (by decide) (by decide)) ?_
      refine TK.one 5 (by decide +kernel) rfl rfl (T1.buildSl1 (os := [.tmp 42]) (vs := [.slice (some ⟨b3, 0, none⟩) 64 64]) ty_44 sz_22 zr_22 (by decide) rfl (.cons (by (conv => lhs; whnf) <;> rfl) .nil) rfl (by intro u hu; simp only [List.mem_cons, List.not_mem_nil, or_false] at hu; subst hu; rfl) (fun b43 => ?_))
      refine ⟨(by repeat (first | exact Find.here | assumption | apply Find.there | apply Find.far)), ?_⟩
      refine TK.one 6 (by decide +kernel) rfl rfl (T1.callX (X := X ++ ([⟨b43, 0, [.slice (some ⟨b3, 0, none⟩) 64 64], 1⟩, ⟨b3, 0, (ipad key).map byteV, 64⟩] : List Blk)) has_28 rfl (Write256_any _ bh _ [] [ipad key] X [⟨b43, 0, [.slice (some ⟨b3, 0, none⟩) 64 64], 1⟩, ⟨b3, 0, (ipad key).map byteV, 64⟩] hb (PartsR.ones (svs := [.slice (some ⟨b3, 0, none⟩) 64 64]) (size := 1) (by simp) rfl (one_part (part64 (size := 64) (by simp) (ipad_len key)))) (one_len (by rw [ipad_len]; decide)) (show 1 < 9223372036854775807 by decide)) (by repeat (first | exact Take.nil | apply Take.one (by repeat (first | exact Pick.here | apply Pick.there | apply Pick.far)) | apply Take.seg (by repeat (first | exact PickS.last | exact PickS.one | exact PickS.here | exact PickS.nil | apply PickS.there | apply PickS.far)) | exact Take.last (by repeat (first | exact PickS.last | exact PickS.one | exact PickS.here | exact PickS.nil | apply PickS.there | apply PickS.far)))) (fun v2 Z hZ => ?_))
      obtain ⟨X', hb', rfl⟩ := hZ
      rw [show ([ipad key] : List (List UInt8)).flatten = ipad key from by simp, List.nil_append] at hb'
      simp only [List.append_assoc, List.cons_append, List.nil_append]
      refine ⟨(by repeat (first | exact Find.here | assumption | apply Find.there | apply Find.far)), ?_⟩
      refine TD.done (by decide +kernel) ?_
      refine T.seq ?_
      refine T.region ?_
      refine TL.cons rfl (V1.t (V1.move' (by (conv => lhs; whnf) <;> rfl)) ?_)
      refine TL.cons rfl (V1.t (V1.assign' (by (conv => lhs; whnf) <;> rfl)) ?_)
      refine TL.nil ?_
      refine T.ret ?_
      exact ⟨_, ⟨b10, 0, .pointer (some ⟨bh, 0, none⟩) :: (opad key).map byteV, 65⟩ :: (X' ++ (Ps ++ G)), _, .cons (.tmp (by (conv => lhs; whnf) <;> rfl)) .nil, (by repeat (first | exact Take.nil | apply Take.one (by repeat (first | exact Pick.here | apply Pick.there | apply Pick.far)) | apply Take.seg (by repeat (first | exact PickS.last | exact PickS.one | exact PickS.here | exact PickS.nil | apply PickS.there | apply PickS.far)) | exact Take.last (by repeat (first | exact PickS.last | exact PickS.one | exact PickS.here | exact PickS.nil | apply PickS.there | apply PickS.far)))), ⟨b10, 0, .pointer (some ⟨bh, 0, none⟩) :: (opad key).map byteV, 65⟩ :: (X' ++ Ps), by simp only [List.cons_append, List.append_assoc], b10, bh, X', rfl, rfl, hb'⟩

end Go.Proofs.Ytelcmllfojfbfaa.S
