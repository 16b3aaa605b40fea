/- Decode: the frame of some bytes. -/
import Derived.Test.YtijijaobialncaaFr6
import Derived.Test.YtijijaobialncaaFr8
namespace Go.Proofs.Ytijijaobialncaa.S
open Go.RowKit

/-- What Decode hands back. -/
def decR (l : List UInt8) (v : Value) (Y : List Blk) : Prop :=
  match decF l with
  | .error e => v = .tuple #[.agg (List.toArray [.int .i64 0, .slice none 0 0, .slice none 0 0, .slice none 0 0, .slice none 0 0]), .int .i64 e] ∧ Y = []
  | .ok (kind, keys, nums, sigs, data) => ∃ sk sn ss sd Yk Yn Ys Yd, v = .tuple #[.agg (List.toArray [.int .i64 kind, sk, sn, ss, sd]), .int .i64 0] ∧ Sl sk (keys.flatten.map byteV) 32 Yk ∧ Sl sn (nums.map u32V) 1 Yn ∧ Sl ss (sigs.flatten.map byteV) 64 Ys ∧ Sl sd (data.map byteV) 1 Yd ∧ Y = Yk ++ (Yn ++ (Ys ++ Yd))
theorem decR_err {l : List UInt8} {e : Int} (h : decF l = .error e) : decR l (.tuple #[.agg (List.toArray [.int .i64 0, .slice none 0 0, .slice none 0 0, .slice none 0 0, .slice none 0 0]), .int .i64 e]) [] := by
  unfold decR; rw [h]; exact ⟨rfl, rfl⟩
theorem decR_ok {l : List UInt8} {kind : Int} {keys : List (List UInt8)} {nums : List Nat} {sigs : List (List UInt8)} {data : List UInt8} {sk sn ss sd : Value} {Yk Yn Ys Yd : List Blk} (h : decF l = .ok (kind, keys, nums, sigs, data))
    (h1 : Sl sk (keys.flatten.map byteV) 32 Yk) (h2 : Sl sn (nums.map u32V) 1 Yn) (h3 : Sl ss (sigs.flatten.map byteV) 64 Ys) (h4 : Sl sd (data.map byteV) 1 Yd) : decR l (.tuple #[.agg (List.toArray [.int .i64 kind, sk, sn, ss, sd]), .int .i64 0]) (Yk ++ (Yn ++ (Ys ++ Yd))) := by
  unfold decR; rw [h]; exact ⟨sk, sn, ss, sd, Yk, Yn, Ys, Yd, rfl, h1, h2, h3, h4, rfl⟩
theorem shapeV_cases (k : Int) : (∃ a b c : Nat, a ≤ 4 ∧ b ≤ 3 ∧ c ≤ 1 ∧ shp k = some (a, b, c, true) ∧ shapeV k = .tuple #[.agg #[.int .i64 a, .int .i64 b, .int .i64 c, .bool true], .int .i64 0]) ∨
    (∃ a b c : Nat, a ≤ 4 ∧ b ≤ 3 ∧ c ≤ 1 ∧ shp k = some (a, b, c, false) ∧ shapeV k = .tuple #[.agg #[.int .i64 a, .int .i64 b, .int .i64 c, .bool false], .int .i64 0]) ∨
    (∃ a b c : Nat, a = 0 ∧ b = 0 ∧ c = 0 ∧ shp k = none ∧ shapeV k = .tuple #[.agg #[.int .i64 a, .int .i64 b, .int .i64 c, .bool false], .int .i64 110]) := by
  rcases kinds k with rfl | rfl | rfl | rfl | rfl | rfl | rfl | ⟨hk, hn⟩
  · exact .inr (.inl ⟨4, 2, 1, by omega, by omega, by omega, rfl, rfl⟩)
  · exact .inl ⟨3, 2, 0, by omega, by omega, by omega, rfl, rfl⟩
  · exact .inl ⟨1, 2, 0, by omega, by omega, by omega, rfl, rfl⟩
  · exact .inr (.inl ⟨3, 2, 0, by omega, by omega, by omega, rfl, rfl⟩)
  · exact .inl ⟨1, 2, 1, by omega, by omega, by omega, rfl, rfl⟩
  · exact .inl ⟨3, 3, 1, by omega, by omega, by omega, rfl, rfl⟩
  · exact .inl ⟨1, 1, 0, by omega, by omega, by omega, rfl, rfl⟩
  · exact .inr (.inr ⟨0, 0, 0, rfl, rfl, rfl, hn, by unfold shapeV; rw [hn]; rfl⟩)

/-- The reader at a place, all well so far; or out of bytes. -/
def RdInv (w : World) (l : List UInt8) (p lim : Nat) (bad : Int) (rest : Value) (l' : List UInt8) : Prop :=
  SlR w rest 1 l'.length (l'.map byteV) ∧ l'.length ≤ l.length ∧ ((bad = 0 ∧ p ≤ l.length ∧ l' = l.drop p) ∨ (bad = 111 ∧ l.length < lim))
theorem RdInv.go {w : World} {l l' : List UInt8} {p lim k : Nat} {bad bad2 : Int} {rest r2 : Value} {A B : Prop} (h : RdInv w l p lim bad rest l') (hp : p + k ≤ lim)
    (hc : (bad = 0 ∧ bad2 = 0 ∧ k ≤ l'.length ∧ A ∧ SlR w r2 1 (l'.length - k) ((l'.drop k).map byteV)) ∨ ((bad ≠ 0 ∨ l'.length < k) ∧ bad2 = (if bad = 0 then 111 else bad) ∧ B ∧ SlR w r2 1 l'.length (l'.map byteV))) :
    ∃ l2, RdInv w l (p + k) lim bad2 r2 l2 ∧ (bad2 = 0 → bad = 0 ∧ l' = l.drop p ∧ A) := by
  obtain ⟨h1, h2, h3⟩ := h
  rcases hc with ⟨rfl, rfl, hk, ha, hs⟩ | ⟨hb, rfl, _, hs⟩
  · rcases h3 with ⟨_, hpl, rfl⟩ | ⟨h, _⟩
    · rw [List.length_drop] at hk hs
      refine ⟨l.drop (p + k), ⟨?_, by rw [List.length_drop]; omega, .inl ⟨rfl, by omega, rfl⟩⟩, fun _ => ⟨rfl, rfl, ha⟩⟩
      rw [List.drop_drop] at hs
      rw [List.length_drop, show l.length - (p + k) = l.length - p - k from by omega]; exact hs
    · exact absurd h (by decide)
  · rcases h3 with ⟨rfl, hpl, rfl⟩ | ⟨rfl, hlt⟩
    · rw [if_pos rfl]
      have : (l.drop p).length < k := by rcases hb with h | h; exact absurd rfl h; exact h
      rw [List.length_drop] at this
      exact ⟨_, ⟨hs, h2, .inr ⟨rfl, by omega⟩⟩, fun h => absurd h (by decide)⟩
    · rw [if_neg (by decide)]
      exact ⟨_, ⟨hs, h2, .inr ⟨rfl, hlt⟩⟩, fun h => absurd h (by decide)⟩

structure DG (α : Type) where
  i : Nat
  bad : Int
  s : Value
  Ls : List Blk
  rest : Value
  ks : List α
  l : List UInt8
theorem one1 {xs : List UInt8} (h : xs.length = 1) : ∃ c, xs = [c] := by
  match xs, h with
  | [c], _ => exact ⟨c, rfl⟩

theorem dec_data_err {w : World} {k : UInt8} {tl l2 : List UInt8} {a b c n : Nat} {bad badd : Int} {rest : Value} (hshp : shp (k.toNat : Nat) = some (a, b, c, true)) (hv : RdInv w (k :: tl) (1 + 32 * a + 4 * b + 64 * c) (1 + 32 * a + 4 * b + 64 * c) bad rest l2) (hn : n = rd32 l2 0)
    (e2 : bad ≠ 0 ∨ l2.length < 4 ∨ 16384 < n ∨ l2.length < 4 + n) (e3 : badd = (if bad ≠ 0 then bad else if l2.length < 4 then 111 else if 16384 < n then 2 else 111)) : decF (k :: tl) = .error badd := by
  obtain ⟨_, _, h⟩ := hv
  rcases h with ⟨rfl, hp, rfl⟩ | ⟨rfl, hp⟩
  · rw [if_neg (by decide), List.length_drop] at e3
    rw [List.length_drop] at e2
    rw [decF_data rfl hshp hn]
    by_cases h4 : (k :: tl).length < 1 + 32 * a + 4 * b + 64 * c + 4
    · rw [if_pos h4, e3, if_pos (by omega)]
    · rw [if_neg h4]
      rw [if_neg (by omega)] at e3
      by_cases h5 : 16384 < n
      · rw [if_pos h5, e3, if_pos h5]
      · rw [if_neg h5, if_pos (by omega), e3, if_neg h5]
  · rw [if_pos (by decide)] at e3
    rw [decF_data rfl hshp rfl, if_pos (by omega), e3]

set_option maxRecDepth 100000 in
set_option maxHeartbeats 4000000 in
theorem Decode_any (v0 : Value) (l : List UInt8) (w : World) (hr : SlR w v0 1 l.length (l.map byteV)) (hl : l.length < 9223372036854775808) : Fn P 14 [v0] w [] (decR l) := by
  obtain ⟨va, vc, rfl⟩ := hr.form
  refine Fn.of 109 [.cell 2 39, .tmp 3] Go.Proofs.Try.func14 rfl rfl rfl rfl ?_
  refine T.seq ?_
  refine T.region ?_
  refine TL.cons rfl (T1.allocN 5 zr_39 rfl (fun b2 => ?_))
  refine TL.cons rfl (V1.t (V1.assign' z_B) ?_)
  refine TL.nil ?_
  refine T.seq ?_
  refine T.region ?_
  refine TL.cons rfl (V1.t (V1.move' z_B) ?_)
  refine TL.cons rfl (V1.t (V1.buildF pl_78 zr_78 (.one rfl z_B rfl .nil) z_I) ?_)
  refine TL.cons rfl (T1.boxN 2 rfl rfl (fun b10 => ?_))
  refine TL.cons rfl (V1.t (V1.assign' z_B) ?_)
  refine TL.nil ?_
  refine T.seq ?_
  refine T.region ?_
  refine TL.cons rfl (V1.t (V1.move' z_B) ?_)
  refine TL.cons rfl (T1.callX has_29 rfl (take_any b10 1 _ 0 l w hr (by omega) hl) z_A (fun v Y hv => ?_))
  obtain ⟨Z, r1, bad9, bk, ok, c, xs, rfl, hcap, rfl, hrd, hxl, hb2, hcase⟩ := takeR.rd (C := ⟨P, w, [], 109⟩) hv rfl (by omega) (by omega)
  dsimp only [List.cons_append, List.nil_append]
  obtain ⟨c1, rfl⟩ := one1 hxl
  rcases hcase with ⟨_, rfl, hk1, hx1, hr1⟩ | ⟨hk1, hbd, _, _⟩
  ·
    obtain ⟨c0, tl, rfl⟩ : ∃ c0 tl, l = c0 :: tl := by (cases l with | nil => simp at hk1 | cons c0 tl => exact ⟨_, _, rfl⟩)
    obtain rfl : c1 = c0 := by simpa using hx1
    have u0 := u8_lt c1
    refine TL.cons rfl (V1.t (V1.indexAddrS ty_29 sz_5 rfl rfl (by decide) (by omega)) ?_)
    refine TL.cons rfl (V1.t (V1.load1 one_5 rfl (hrd _ 0 _ rfl)) ?_)
    refine TL.cons rfl (V1.t (V1.conv ty_5 ty_3 rfl (wrap_i64 _ (by omega) (by omega))) ?_)
    refine TL.cons rfl (V1.t (V1.buildF pl_39 zr_39 (.one rfl z_B rfl .nil) z_I) ?_)
    refine TL.cons rfl (T1.allocN 5 zr_39 rfl (fun b5 => ?_))
    refine TL.cons rfl (T1.storeN rfl rfl sz_39 (ones rfl) z_H (by rfl) (by rfl) ?_)
    refine TL.nil ?_
    refine T.seq ?_
    refine T.seq ?_
    refine T.region ?_
    refine TL.cons rfl (V1.t (V1.move' z_B) ?_)
    refine TL.cons rfl (V1.t (V1.nilCheck rfl) ?_)
    refine TL.cons rfl (V1.t (V1.fieldAddr fl_78_1 rfl) ?_)
    refine TL.cons rfl (V1.t (V1.load1 one_25 rfl (.own z_D (by rfl))) ?_)
    refine TL.cons rfl (V1.t (V1.neI rfl rfl (decide_eq_false (by omega))) ?_)
    refine TL.nil ?_
    refine T.cond_f rfl ?_
    refine T.skip ?_
    refine T.seq ?_
    refine T.live (l := [(2, _), (4, _), (5, _)]) (.cons z_B (.cons z_B (.cons z_B .nil))) (fun e_ => ?_)
    refine T.region ?_
    refine TL.cons rfl (V1.t (V1.fieldAddr fl_39_0 rfl) ?_)
    refine TL.cons rfl (V1.t (V1.load1 one_3 rfl (.own z_D (by rfl))) ?_)
    refine TL.cons rfl (T1.call0 has_30 rfl (fun w hs => ShapeOf_any _ w) (fun v hv => ?_))
    rcases shapeV_cases (c1.toNat : Nat) with ⟨sa, sb, sc, ha, hb, hc, hshp, h2⟩ | ⟨sa, sb, sc, ha, hb, hc, hshp, h2⟩ | ⟨sa, sb, sc, ha, hb, hc, hshp, h2⟩ <;> rw [h2] at hv <;> subst hv
    ·
      refine TL.cons rfl (V1.t (V1.move' z_B) ?_)
      refine TL.cons rfl (V1.t (V1.extract rfl (by rfl)) ?_)
      refine TL.cons rfl (V1.t (V1.extract rfl (by rfl)) ?_)
      refine TL.cons rfl (T1.allocN 4 zr_81 rfl (fun b6 => ?_))
      refine TL.cons rfl (T1.storeN rfl rfl sz_81 (ones rfl) z_H (by rfl) (by rfl) ?_)
      refine TL.cons rfl (V1.t (V1.assign' z_B) ?_)
      refine TL.nil ?_
      refine T.seq ?_
      refine T.seq ?_
      refine T.region ?_
      refine TL.cons rfl (V1.t (V1.move' z_B) ?_)
      refine TL.cons rfl (V1.t (V1.neI rfl rfl (decide_eq_false (by omega))) ?_)
      refine TL.nil ?_
      refine T.cond_f rfl ?_
      refine T.skip ?_
      refine T.seq ?_
      refine T.seq ?_
      refine T.region ?_
      refine TL.cons rfl (V1.t (V1.fieldAddr fl_81_0 rfl) ?_)
      have hinv0 : RdInv w (c1 :: tl) (1 + 32 * 0) (1 + 32 * sa + 4 * sb + 64 * sc) 0 r1 tl := ⟨by simpa using hr1, by simp, .inl ⟨rfl, by simp, rfl⟩⟩
      refine TL.cons rfl (V1.t (V1.load1 one_3 rfl (.own z_D (by rfl))) ?_)
      refine TL.cons rfl (V1.t (V1.move' z_B) ?_)
      refine TL.nil ?_
      refine T.block ?_
      refine T.loopL (σ := DG (List UInt8)) (l0 := [(2, _), (4, _), (5, _), (6, _), (38, _)]) (fun x => [(39, .int .i64 (x.i : Nat))]) (fun x L => L = ⟨b10, 0, [x.rest, .int .i64 x.bad], 2⟩ :: ⟨b5, 0, [.int .i64 (c1.toNat : Nat), x.s, .slice none 0 0, .slice none 0 0, .slice none 0 0], 5⟩ :: ⟨b6, 0, [.int .i64 sa, .int .i64 sb, .int .i64 sc, .bool true], 4⟩ :: ⟨b2, 0, [.int .i64 0, .slice none 0 0, .slice none 0 0, .slice none 0 0, .slice none 0 0], 5⟩ :: x.Ls ∧ x.i ≤ sa ∧ Sl x.s (x.ks.flatten.map byteV) 32 x.Ls ∧ x.ks.length = x.i ∧ (∀ y ∈ x.ks, y.length = 32) ∧ RdInv w (c1 :: tl) (1 + 32 * x.i) (1 + 32 * sa + 4 * sb + 64 * sc) x.bad x.rest x.l ∧ (x.bad = 0 → x.ks = chunks 32 x.i ((c1 :: tl).drop (1)))) (fun x => sa - x.i) ⟨0, 0, .slice none 0 0, [], r1, [], tl⟩ (.cons rfl .nil) (.cons z_B (.cons z_B (.cons z_B (.cons z_B (.cons z_B .nil))))) z_A (⟨rfl, Nat.zero_le _, Sl.nil, rfl, by simp, hinv0, fun _ => rfl⟩) ?_
      rintro ⟨i0, bad0, sk, Lk, rest0, ks0, l0⟩ e_ L ⟨rfl, hi0, hs0, hc0, hy0, hv0, hd0⟩
      dsimp only at hi0 hs0 hc0 hy0 hv0 hd0
      dsimp only
      refine T.seq ?_
      refine T.region ?_
      refine TL.cons rfl (T1.ltI_split rfl rfl (fun h9_0 => ?_) (fun h9_0 => ?_))
      ·
        refine TL.nil ?_
        refine T.seq ?_
        refine T.cond_t rfl ?_
        refine T.skip ?_
        refine T.seq ?_
        refine T.block ?_
        refine T.drawU mixed ?_
        refine TU.take 0 rfl z_F z_F z_F rfl (fun _ _ _ h => h) (fun _ => V1.fieldAddr fl_39_1 rfl) ?_
        refine TU.take 2 rfl z_F z_F z_F rfl (fun _ _ _ h => h) (fun _ => V1.move' z_B) ?_
        refine TU.two 1 3 z_F rfl rfl rfl rfl (V1.t (V1.load1 one_35 rfl (.own z_D (by rfl))) ?_) (T1.callX has_29 rfl (take_any b10 32 rest0 bad0 l0 w hv0.1 (by omega) (by have := hv0.2.1; omega)) z_A (fun v Y hv => ?_))
        ·
          refine TU.one 3 z_F rfl rfl (T1.callX has_29 rfl (take_any b10 32 rest0 bad0 l0 w hv0.1 (by omega) (by have := hv0.2.1; omega)) z_A (fun v Y hv => ?_))
          obtain ⟨Z, rz, badz, bk, ok, c, xs, rfl, hcap, rfl, hrd, hxl, hb2, hcase⟩ := takeR.rd (C := ⟨P, w, [], 109⟩) hv rfl (by omega) (by omega)
          dsimp only [List.cons_append, List.nil_append]
          obtain ⟨lz, hvz, hkz⟩ := hv0.go (k := 32) (by omega) hcase
          refine TU.take 4 rfl z_F z_F z_F rfl (fun _ _ _ h => h) (fun _ => V1.s2ap ty_60 rfl (by omega)) ?_
          refine TU.one 5 z_F rfl rfl (V1.t (V1.loadN one_60 sz_60 rfl (hrd _) (by rw [List.length_map]; exact hxl)) ?_)
          refine TU.one 6 z_F rfl rfl (T1.buildSlN (os := [.tmp 46]) ty_35 sz_60 zr_60 (by decide) rfl (.cons z_B .nil) z_K (by rfl) (by intro y hy; simp only [List.mem_singleton] at hy; subst hy; rw [List.length_map]; exact hxl) (fun bb => ?_))
          refine TU.one 7 z_F rfl rfl (T1.append ty_35 kd_35 sz_60 by_60 zr_60 rfl (by decide) (by decide) rfl rfl hs0 (.sl (n := 1) (RdN.whole z_D) (by simp [hxl])) (by intro u hu; simp only [List.flatten_cons, List.flatten_nil, List.append_nil] at hu; exact one_bytes xs u hu) 100 (by have := flat_len ks0 hy0; simp only [List.length_map, List.flatten_cons, List.flatten_nil, List.append_nil, hxl]; omega) (by omega) z_C (fun s' Ls' hsl' => ?_))
          refine TU.take 8 rfl z_F z_F z_F rfl (fun _ _ _ h => h) (fun _ => V1.fieldAddr fl_39_1 rfl) ?_
          refine TU.one 9 z_F rfl rfl (T1.store1 rfl rfl sz_35 hsl'.one z_H (Nat.zero_le _) z_J ?_)
          refine TU.done z_F ?_
          refine T.region ?_
          refine TL.cons rfl (V1.t (V1.add rfl rfl (wrap_i64 _ (by omega) (by omega))) ?_)
          refine TL.cons rfl (V1.t (V1.move' z_B) ?_)
          refine TL.nil ?_
          exact ⟨⟨i0 + 1, badz, s', Ls', rz, ks0 ++ [xs], lz⟩, _, _, (by dsimp only; omega), (.cons rfl .nil), (.cons rfl (.cons rfl (.cons rfl (.cons rfl (.cons rfl .nil))))), z_A, ⟨rfl, by dsimp only; omega, by simpa using hsl', by simp [hc0], fun y hy => by rcases List.mem_append.1 hy with hy | hy; exact hy0 y hy; simp only [List.mem_singleton] at hy; subst hy; exact hxl, hvz, fun hb => by obtain ⟨e1, e2, e3⟩ := hkz hb; rw [hd0 e1, e3, e2, chunks_succ, List.drop_drop]⟩⟩
        ·
          obtain ⟨Z, rz, badz, bk, ok, c, xs, rfl, hcap, rfl, hrd, hxl, hb2, hcase⟩ := takeR.rd (C := ⟨P, w, [], 109⟩) hv rfl (by omega) (by omega)
          dsimp only [List.cons_append, List.nil_append]
          obtain ⟨lz, hvz, hkz⟩ := hv0.go (k := 32) (by omega) hcase
          refine TU.take 4 rfl z_F z_F z_F rfl (fun _ _ _ h => h) (fun _ => V1.s2ap ty_60 rfl (by omega)) ?_
          refine TU.two 1 5 z_F rfl rfl rfl rfl (V1.t (V1.load1 one_35 rfl (.own z_D (by rfl))) ?_) (V1.t (V1.loadN one_60 sz_60 rfl (hrd _) (by rw [List.length_map]; exact hxl)) ?_)
          ·
            refine TU.one 5 z_F rfl rfl (V1.t (V1.loadN one_60 sz_60 rfl (hrd _) (by rw [List.length_map]; exact hxl)) ?_)
            refine TU.one 6 z_F rfl rfl (T1.buildSlN (os := [.tmp 46]) ty_35 sz_60 zr_60 (by decide) rfl (.cons z_B .nil) z_K (by rfl) (by intro y hy; simp only [List.mem_singleton] at hy; subst hy; rw [List.length_map]; exact hxl) (fun bb => ?_))
            refine TU.one 7 z_F rfl rfl (T1.append ty_35 kd_35 sz_60 by_60 zr_60 rfl (by decide) (by decide) rfl rfl hs0 (.sl (n := 1) (RdN.whole z_D) (by simp [hxl])) (by intro u hu; simp only [List.flatten_cons, List.flatten_nil, List.append_nil] at hu; exact one_bytes xs u hu) 100 (by have := flat_len ks0 hy0; simp only [List.length_map, List.flatten_cons, List.flatten_nil, List.append_nil, hxl]; omega) (by omega) z_C (fun s' Ls' hsl' => ?_))
            refine TU.take 8 rfl z_F z_F z_F rfl (fun _ _ _ h => h) (fun _ => V1.fieldAddr fl_39_1 rfl) ?_
            refine TU.one 9 z_F rfl rfl (T1.store1 rfl rfl sz_35 hsl'.one z_H (Nat.zero_le _) z_J ?_)
            refine TU.done z_F ?_
            refine T.region ?_
            refine TL.cons rfl (V1.t (V1.add rfl rfl (wrap_i64 _ (by omega) (by omega))) ?_)
            refine TL.cons rfl (V1.t (V1.move' z_B) ?_)
            refine TL.nil ?_
            exact ⟨⟨i0 + 1, badz, s', Ls', rz, ks0 ++ [xs], lz⟩, _, _, (by dsimp only; omega), (.cons rfl .nil), (.cons rfl (.cons rfl (.cons rfl (.cons rfl (.cons rfl .nil))))), z_A, ⟨rfl, by dsimp only; omega, by simpa using hsl', by simp [hc0], fun y hy => by rcases List.mem_append.1 hy with hy | hy; exact hy0 y hy; simp only [List.mem_singleton] at hy; subst hy; exact hxl, hvz, fun hb => by obtain ⟨e1, e2, e3⟩ := hkz hb; rw [hd0 e1, e3, e2, chunks_succ, List.drop_drop]⟩⟩
          ·
            refine TU.two 1 6 z_F rfl rfl rfl rfl (V1.t (V1.load1 one_35 rfl (.own z_D (by rfl))) ?_) (T1.buildSlN (os := [.tmp 46]) ty_35 sz_60 zr_60 (by decide) rfl (.cons z_B .nil) z_K (by rfl) (by intro y hy; simp only [List.mem_singleton] at hy; subst hy; rw [List.length_map]; exact hxl) (fun bb => ?_))
            ·
              refine TU.one 6 z_F rfl rfl (T1.buildSlN (os := [.tmp 46]) ty_35 sz_60 zr_60 (by decide) rfl (.cons z_B .nil) z_K (by rfl) (by intro y hy; simp only [List.mem_singleton] at hy; subst hy; rw [List.length_map]; exact hxl) (fun bb => ?_))
              refine TU.one 7 z_F rfl rfl (T1.append ty_35 kd_35 sz_60 by_60 zr_60 rfl (by decide) (by decide) rfl rfl hs0 (.sl (n := 1) (RdN.whole z_D) (by simp [hxl])) (by intro u hu; simp only [List.flatten_cons, List.flatten_nil, List.append_nil] at hu; exact one_bytes xs u hu) 100 (by have := flat_len ks0 hy0; simp only [List.length_map, List.flatten_cons, List.flatten_nil, List.append_nil, hxl]; omega) (by omega) z_C (fun s' Ls' hsl' => ?_))
              refine TU.take 8 rfl z_F z_F z_F rfl (fun _ _ _ h => h) (fun _ => V1.fieldAddr fl_39_1 rfl) ?_
              refine TU.one 9 z_F rfl rfl (T1.store1 rfl rfl sz_35 hsl'.one z_H (Nat.zero_le _) z_J ?_)
              refine TU.done z_F ?_
              refine T.region ?_
              refine TL.cons rfl (V1.t (V1.add rfl rfl (wrap_i64 _ (by omega) (by omega))) ?_)
              refine TL.cons rfl (V1.t (V1.move' z_B) ?_)
              refine TL.nil ?_
              exact ⟨⟨i0 + 1, badz, s', Ls', rz, ks0 ++ [xs], lz⟩, _, _, (by dsimp only; omega), (.cons rfl .nil), (.cons rfl (.cons rfl (.cons rfl (.cons rfl (.cons rfl .nil))))), z_A, ⟨rfl, by dsimp only; omega, by simpa using hsl', by simp [hc0], fun y hy => by rcases List.mem_append.1 hy with hy | hy; exact hy0 y hy; simp only [List.mem_singleton] at hy; subst hy; exact hxl, hvz, fun hb => by obtain ⟨e1, e2, e3⟩ := hkz hb; rw [hd0 e1, e3, e2, chunks_succ, List.drop_drop]⟩⟩
            ·
              refine TU.one 1 z_F rfl rfl (V1.t (V1.load1 one_35 rfl (.own z_D (by rfl))) ?_)
              refine TU.one 7 z_F rfl rfl (T1.append ty_35 kd_35 sz_60 by_60 zr_60 rfl (by decide) (by decide) rfl rfl hs0 (.sl (n := 1) (RdN.whole z_D) (by simp [hxl])) (by intro u hu; simp only [List.flatten_cons, List.flatten_nil, List.append_nil] at hu; exact one_bytes xs u hu) 100 (by have := flat_len ks0 hy0; simp only [List.length_map, List.flatten_cons, List.flatten_nil, List.append_nil, hxl]; omega) (by omega) z_C (fun s' Ls' hsl' => ?_))
              refine TU.take 8 rfl z_F z_F z_F rfl (fun _ _ _ h => h) (fun _ => V1.fieldAddr fl_39_1 rfl) ?_
              refine TU.one 9 z_F rfl rfl (T1.store1 rfl rfl sz_35 hsl'.one z_H (Nat.zero_le _) z_J ?_)
              refine TU.done z_F ?_
              refine T.region ?_
              refine TL.cons rfl (V1.t (V1.add rfl rfl (wrap_i64 _ (by omega) (by omega))) ?_)
              refine TL.cons rfl (V1.t (V1.move' z_B) ?_)
              refine TL.nil ?_
              exact ⟨⟨i0 + 1, badz, s', Ls', rz, ks0 ++ [xs], lz⟩, _, _, (by dsimp only; omega), (.cons rfl .nil), (.cons rfl (.cons rfl (.cons rfl (.cons rfl (.cons rfl .nil))))), z_A, ⟨rfl, by dsimp only; omega, by simpa using hsl', by simp [hc0], fun y hy => by rcases List.mem_append.1 hy with hy | hy; exact hy0 y hy; simp only [List.mem_singleton] at hy; subst hy; exact hxl, hvz, fun hb => by obtain ⟨e1, e2, e3⟩ := hkz hb; rw [hd0 e1, e3, e2, chunks_succ, List.drop_drop]⟩⟩
      ·
        refine TL.nil ?_
        refine T.seq ?_
        refine T.cond_f rfl ?_
        refine T.exit ?_
        refine T.seq ?_
        refine T.seq ?_
        refine T.region ?_
        refine TL.cons rfl (V1.t (V1.fieldAddr fl_81_1 rfl) ?_)
        refine TL.cons rfl (V1.t (V1.load1 one_3 rfl (.own z_D (by rfl))) ?_)
        refine TL.cons rfl (V1.t (V1.move' z_B) ?_)
        refine TL.nil ?_
        refine T.block ?_
        obtain rfl : sa = i0 := by omega
        refine T.loopL (σ := DG Nat) (l0 := [(2, _), (4, _), (5, _), (6, _), (52, _)]) (fun x => [(53, .int .i64 (x.i : Nat))]) (fun x L => L = ⟨b10, 0, [x.rest, .int .i64 x.bad], 2⟩ :: ⟨b5, 0, [.int .i64 (c1.toNat : Nat), sk, x.s, .slice none 0 0, .slice none 0 0], 5⟩ :: ⟨b6, 0, [.int .i64 sa, .int .i64 sb, .int .i64 sc, .bool true], 4⟩ :: ⟨b2, 0, [.int .i64 0, .slice none 0 0, .slice none 0 0, .slice none 0 0, .slice none 0 0], 5⟩ :: (x.Ls ++ Lk) ∧ x.i ≤ sb ∧ Sl x.s (x.ks.map u32V) 1 x.Ls ∧ x.ks.length = x.i ∧ RdInv w (c1 :: tl) (1 + 32 * sa + 4 * x.i) (1 + 32 * sa + 4 * sb + 64 * sc) x.bad x.rest x.l ∧ (x.bad = 0 → x.ks = nums32 x.i ((c1 :: tl).drop (1 + 32 * sa)) ∧ bad0 = 0)) (fun x => sb - x.i) ⟨0, bad0, .slice none 0 0, [], rest0, [], l0⟩ (.cons rfl .nil) (.cons z_B (.cons z_B (.cons z_B (.cons z_B (.cons z_B .nil))))) z_A (⟨rfl, Nat.zero_le _, Sl.nil, rfl, hv0, fun h => ⟨rfl, h⟩⟩) ?_
        rintro ⟨i1, bad1, sn, Ln, rest1, ks1, l1⟩ e_ L ⟨rfl, hi1, hs1, hc1, hv1, hd1⟩
        dsimp only at hi1 hs1 hc1 hv1 hd1
        dsimp only
        refine T.seq ?_
        refine T.region ?_
        refine TL.cons rfl (T1.ltI_split rfl rfl (fun h13_0 => ?_) (fun h13_0 => ?_))
        ·
          refine TL.nil ?_
          refine T.seq ?_
          refine T.cond_t rfl ?_
          refine T.skip ?_
          refine T.seq ?_
          refine T.block ?_
          refine T.drawU mixed ?_
          refine TU.take 0 rfl z_F z_F z_F rfl (fun _ _ _ h => h) (fun _ => V1.fieldAddr fl_39_2 rfl) ?_
          refine TU.take 2 rfl z_F z_F z_F rfl (fun _ _ _ h => h) (fun _ => V1.move' z_B) ?_
          refine TU.two 1 3 z_F rfl rfl rfl rfl (V1.t (V1.load1 one_36 rfl (.own z_D (by rfl))) ?_) (T1.callX has_31 rfl (readnumber_any b10 rest1 bad1 l1 w hv1.1 (by have := hv1.2.1; omega)) z_A (fun v Y hv => ?_))
          ·
            refine TU.one 3 z_F rfl rfl (T1.callX has_31 rfl (readnumber_any b10 rest1 bad1 l1 w hv1.1 (by have := hv1.2.1; omega)) z_A (fun v Y hv => ?_))
            obtain ⟨rz, badz, n, rfl, rfl, hcase⟩ := hv
            dsimp only [List.cons_append, List.nil_append]
            obtain ⟨lz, hvz, hkz⟩ := hv1.go (k := 4) (by omega) hcase
            refine TU.one 4 z_F rfl rfl (T1.buildSl1 (os := [.tmp 58]) ty_36 sz_27 zr_27 (by decide) rfl (.cons z_B .nil) rfl (ones rfl) (fun b59 => ?_))
            refine TU.one 5 z_F rfl rfl (T1.append ty_36 kd_36 sz_27 by_27 zr_27 rfl (by decide) (by decide) rfl rfl hs1 (.sl (n := 1) (RdN.whole z_D) (by rfl)) (ones rfl) 100 (by simp only [List.length_map, List.length_cons, List.length_nil]; omega) (by omega) z_C (fun s' Ls' hsl' => ?_))
            refine TU.take 6 rfl z_F z_F z_F rfl (fun _ _ _ h => h) (fun _ => V1.fieldAddr fl_39_2 rfl) ?_
            refine TU.one 7 z_F rfl rfl (T1.store1 rfl rfl sz_36 hsl'.one z_H (Nat.zero_le _) z_J ?_)
            refine TU.done z_F ?_
            refine T.region ?_
            refine TL.cons rfl (V1.t (V1.add rfl rfl (wrap_i64 _ (by omega) (by omega))) ?_)
            refine TL.cons rfl (V1.t (V1.move' z_B) ?_)
            refine TL.nil ?_
            exact ⟨⟨i1 + 1, badz, s', Ls', rz, ks1 ++ [n], lz⟩, _, _, (by dsimp only; omega), (.cons rfl .nil), (.cons rfl (.cons rfl (.cons rfl (.cons rfl (.cons rfl .nil))))), z_A, ⟨rfl, by dsimp only; omega, by simpa [u32V] using hsl', by simp [hc1], hvz, fun hb => by obtain ⟨e1, e2, e3⟩ := hkz hb; exact ⟨by rw [(hd1 e1).1, e3, e2, nums32_succ, List.drop_drop], (hd1 e1).2⟩⟩⟩
          ·
            obtain ⟨rz, badz, n, rfl, rfl, hcase⟩ := hv
            dsimp only [List.cons_append, List.nil_append]
            obtain ⟨lz, hvz, hkz⟩ := hv1.go (k := 4) (by omega) hcase
            refine TU.two 1 4 z_F rfl rfl rfl rfl (V1.t (V1.load1 one_36 rfl (.own z_D (by rfl))) ?_) (T1.buildSl1 (os := [.tmp 58]) ty_36 sz_27 zr_27 (by decide) rfl (.cons z_B .nil) rfl (ones rfl) (fun b59 => ?_))
            ·
              refine TU.one 4 z_F rfl rfl (T1.buildSl1 (os := [.tmp 58]) ty_36 sz_27 zr_27 (by decide) rfl (.cons z_B .nil) rfl (ones rfl) (fun b59 => ?_))
              refine TU.one 5 z_F rfl rfl (T1.append ty_36 kd_36 sz_27 by_27 zr_27 rfl (by decide) (by decide) rfl rfl hs1 (.sl (n := 1) (RdN.whole z_D) (by rfl)) (ones rfl) 100 (by simp only [List.length_map, List.length_cons, List.length_nil]; omega) (by omega) z_C (fun s' Ls' hsl' => ?_))
              refine TU.take 6 rfl z_F z_F z_F rfl (fun _ _ _ h => h) (fun _ => V1.fieldAddr fl_39_2 rfl) ?_
              refine TU.one 7 z_F rfl rfl (T1.store1 rfl rfl sz_36 hsl'.one z_H (Nat.zero_le _) z_J ?_)
              refine TU.done z_F ?_
              refine T.region ?_
              refine TL.cons rfl (V1.t (V1.add rfl rfl (wrap_i64 _ (by omega) (by omega))) ?_)
              refine TL.cons rfl (V1.t (V1.move' z_B) ?_)
              refine TL.nil ?_
              exact ⟨⟨i1 + 1, badz, s', Ls', rz, ks1 ++ [n], lz⟩, _, _, (by dsimp only; omega), (.cons rfl .nil), (.cons rfl (.cons rfl (.cons rfl (.cons rfl (.cons rfl .nil))))), z_A, ⟨rfl, by dsimp only; omega, by simpa [u32V] using hsl', by simp [hc1], hvz, fun hb => by obtain ⟨e1, e2, e3⟩ := hkz hb; exact ⟨by rw [(hd1 e1).1, e3, e2, nums32_succ, List.drop_drop], (hd1 e1).2⟩⟩⟩
            ·
              refine TU.one 1 z_F rfl rfl (V1.t (V1.load1 one_36 rfl (.own z_D (by rfl))) ?_)
              refine TU.one 5 z_F rfl rfl (T1.append ty_36 kd_36 sz_27 by_27 zr_27 rfl (by decide) (by decide) rfl rfl hs1 (.sl (n := 1) (RdN.whole z_D) (by rfl)) (ones rfl) 100 (by simp only [List.length_map, List.length_cons, List.length_nil]; omega) (by omega) z_C (fun s' Ls' hsl' => ?_))
              refine TU.take 6 rfl z_F z_F z_F rfl (fun _ _ _ h => h) (fun _ => V1.fieldAddr fl_39_2 rfl) ?_
              refine TU.one 7 z_F rfl rfl (T1.store1 rfl rfl sz_36 hsl'.one z_H (Nat.zero_le _) z_J ?_)
              refine TU.done z_F ?_
              refine T.region ?_
              refine TL.cons rfl (V1.t (V1.add rfl rfl (wrap_i64 _ (by omega) (by omega))) ?_)
              refine TL.cons rfl (V1.t (V1.move' z_B) ?_)
              refine TL.nil ?_
              exact ⟨⟨i1 + 1, badz, s', Ls', rz, ks1 ++ [n], lz⟩, _, _, (by dsimp only; omega), (.cons rfl .nil), (.cons rfl (.cons rfl (.cons rfl (.cons rfl (.cons rfl .nil))))), z_A, ⟨rfl, by dsimp only; omega, by simpa [u32V] using hsl', by simp [hc1], hvz, fun hb => by obtain ⟨e1, e2, e3⟩ := hkz hb; exact ⟨by rw [(hd1 e1).1, e3, e2, nums32_succ, List.drop_drop], (hd1 e1).2⟩⟩⟩
        ·
          refine TL.nil ?_
          refine T.seq ?_
          refine T.cond_f rfl ?_
          refine T.exit ?_
          refine T.seq ?_
          refine T.seq ?_
          refine T.region ?_
          refine TL.cons rfl (V1.t (V1.fieldAddr fl_81_2 rfl) ?_)
          refine TL.cons rfl (V1.t (V1.load1 one_3 rfl (.own z_D (by rfl))) ?_)
          refine TL.cons rfl (V1.t (V1.move' z_B) ?_)
          refine TL.nil ?_
          refine T.block ?_
          obtain rfl : sb = i1 := by omega
          refine T.loopL (σ := DG (List UInt8)) (l0 := [(2, _), (4, _), (5, _), (6, _), (64, _)]) (fun x => [(65, .int .i64 (x.i : Nat))]) (fun x L => L = ⟨b10, 0, [x.rest, .int .i64 x.bad], 2⟩ :: ⟨b5, 0, [.int .i64 (c1.toNat : Nat), sk, sn, x.s, .slice none 0 0], 5⟩ :: ⟨b6, 0, [.int .i64 sa, .int .i64 sb, .int .i64 sc, .bool true], 4⟩ :: ⟨b2, 0, [.int .i64 0, .slice none 0 0, .slice none 0 0, .slice none 0 0, .slice none 0 0], 5⟩ :: (x.Ls ++ (Ln ++ Lk)) ∧ x.i ≤ sc ∧ Sl x.s (x.ks.flatten.map byteV) 64 x.Ls ∧ x.ks.length = x.i ∧ (∀ y ∈ x.ks, y.length = 64) ∧ RdInv w (c1 :: tl) (1 + 32 * sa + 4 * sb + 64 * x.i) (1 + 32 * sa + 4 * sb + 64 * sc) x.bad x.rest x.l ∧ (x.bad = 0 → x.ks = chunks 64 x.i ((c1 :: tl).drop (1 + 32 * sa + 4 * sb)) ∧ bad1 = 0)) (fun x => sc - x.i) ⟨0, bad1, .slice none 0 0, [], rest1, [], l1⟩ (.cons rfl .nil) (.cons z_B (.cons z_B (.cons z_B (.cons z_B (.cons z_B .nil))))) z_A (⟨rfl, Nat.zero_le _, Sl.nil, rfl, by simp, hv1, fun h => ⟨rfl, h⟩⟩) ?_
          rintro ⟨i2, bad2, sx, Lx, rest2, ks2, l2⟩ e_ L ⟨rfl, hi2, hs2, hc2, hy2, hv2, hd2⟩
          dsimp only at hi2 hs2 hc2 hy2 hv2 hd2
          dsimp only
          refine T.seq ?_
          refine T.region ?_
          refine TL.cons rfl (T1.ltI_split rfl rfl (fun h17_0 => ?_) (fun h17_0 => ?_))
          ·
            refine TL.nil ?_
            refine T.seq ?_
            refine T.cond_t rfl ?_
            refine T.skip ?_
            refine T.seq ?_
            refine T.block ?_
            refine T.drawU mixed ?_
            refine TU.take 0 rfl z_F z_F z_F rfl (fun _ _ _ h => h) (fun _ => V1.fieldAddr fl_39_3 rfl) ?_
            refine TU.take 2 rfl z_F z_F z_F rfl (fun _ _ _ h => h) (fun _ => V1.move' z_B) ?_
            refine TU.two 1 3 z_F rfl rfl rfl rfl (V1.t (V1.load1 one_37 rfl (.own z_D (by rfl))) ?_) (T1.callX has_29 rfl (take_any b10 64 rest2 bad2 l2 w hv2.1 (by omega) (by have := hv2.2.1; omega)) z_A (fun v Y hv => ?_))
            ·
              refine TU.one 3 z_F rfl rfl (T1.callX has_29 rfl (take_any b10 64 rest2 bad2 l2 w hv2.1 (by omega) (by have := hv2.2.1; omega)) z_A (fun v Y hv => ?_))
              obtain ⟨Z, rz, badz, bk, ok, c, xs, rfl, hcap, rfl, hrd, hxl, hb2, hcase⟩ := takeR.rd (C := ⟨P, w, [], 109⟩) hv rfl (by omega) (by omega)
              dsimp only [List.cons_append, List.nil_append]
              obtain ⟨lz, hvz, hkz⟩ := hv2.go (k := 64) (by omega) hcase
              refine TU.take 4 rfl z_F z_F z_F rfl (fun _ _ _ h => h) (fun _ => V1.s2ap ty_86 rfl (by omega)) ?_
              refine TU.one 5 z_F rfl rfl (V1.t (V1.loadN one_86 sz_86 rfl (hrd _) (by rw [List.length_map]; exact hxl)) ?_)
              refine TU.one 6 z_F rfl rfl (T1.buildSlN (os := [.tmp 72]) ty_37 sz_86 zr_86 (by decide) rfl (.cons z_B .nil) z_K (by rfl) (by intro y hy; simp only [List.mem_singleton] at hy; subst hy; rw [List.length_map]; exact hxl) (fun bb => ?_))
              refine TU.one 7 z_F rfl rfl (T1.append ty_37 kd_37 sz_86 by_86 zr_86 rfl (by decide) (by decide) rfl rfl hs2 (.sl (n := 1) (RdN.whole z_D) (by simp [hxl])) (by intro u hu; simp only [List.flatten_cons, List.flatten_nil, List.append_nil] at hu; exact one_bytes xs u hu) 100 (by have := flat_len ks2 hy2; simp only [List.length_map, List.flatten_cons, List.flatten_nil, List.append_nil, hxl]; omega) (by omega) z_C (fun s' Ls' hsl' => ?_))
              refine TU.take 8 rfl z_F z_F z_F rfl (fun _ _ _ h => h) (fun _ => V1.fieldAddr fl_39_3 rfl) ?_
              refine TU.one 9 z_F rfl rfl (T1.store1 rfl rfl sz_37 hsl'.one z_H (Nat.zero_le _) z_J ?_)
              refine TU.done z_F ?_
              refine T.region ?_
              refine TL.cons rfl (V1.t (V1.add rfl rfl (wrap_i64 _ (by omega) (by omega))) ?_)
              refine TL.cons rfl (V1.t (V1.move' z_B) ?_)
              refine TL.nil ?_
              exact ⟨⟨i2 + 1, badz, s', Ls', rz, ks2 ++ [xs], lz⟩, _, _, (by dsimp only; omega), (.cons rfl .nil), (.cons rfl (.cons rfl (.cons rfl (.cons rfl (.cons rfl .nil))))), z_A, ⟨rfl, by dsimp only; omega, by simpa using hsl', by simp [hc2], fun y hy => by rcases List.mem_append.1 hy with hy | hy; exact hy2 y hy; simp only [List.mem_singleton] at hy; subst hy; exact hxl, hvz, fun hb => by obtain ⟨e1, e2, e3⟩ := hkz hb; exact ⟨by rw [(hd2 e1).1, e3, e2, chunks_succ, List.drop_drop], (hd2 e1).2⟩⟩⟩
            ·
              obtain ⟨Z, rz, badz, bk, ok, c, xs, rfl, hcap, rfl, hrd, hxl, hb2, hcase⟩ := takeR.rd (C := ⟨P, w, [], 109⟩) hv rfl (by omega) (by omega)
              dsimp only [List.cons_append, List.nil_append]
              obtain ⟨lz, hvz, hkz⟩ := hv2.go (k := 64) (by omega) hcase
              refine TU.take 4 rfl z_F z_F z_F rfl (fun _ _ _ h => h) (fun _ => V1.s2ap ty_86 rfl (by omega)) ?_
              refine TU.two 1 5 z_F rfl rfl rfl rfl (V1.t (V1.load1 one_37 rfl (.own z_D (by rfl))) ?_) (V1.t (V1.loadN one_86 sz_86 rfl (hrd _) (by rw [List.length_map]; exact hxl)) ?_)
              ·
                refine TU.one 5 z_F rfl rfl (V1.t (V1.loadN one_86 sz_86 rfl (hrd _) (by rw [List.length_map]; exact hxl)) ?_)
                refine TU.one 6 z_F rfl rfl (T1.buildSlN (os := [.tmp 72]) ty_37 sz_86 zr_86 (by decide) rfl (.cons z_B .nil) z_K (by rfl) (by intro y hy; simp only [List.mem_singleton] at hy; subst hy; rw [List.length_map]; exact hxl) (fun bb => ?_))
                refine TU.one 7 z_F rfl rfl (T1.append ty_37 kd_37 sz_86 by_86 zr_86 rfl (by decide) (by decide) rfl rfl hs2 (.sl (n := 1) (RdN.whole z_D) (by simp [hxl])) (by intro u hu; simp only [List.flatten_cons, List.flatten_nil, List.append_nil] at hu; exact one_bytes xs u hu) 100 (by have := flat_len ks2 hy2; simp only [List.length_map, List.flatten_cons, List.flatten_nil, List.append_nil, hxl]; omega) (by omega) z_C (fun s' Ls' hsl' => ?_))
                refine TU.take 8 rfl z_F z_F z_F rfl (fun _ _ _ h => h) (fun _ => V1.fieldAddr fl_39_3 rfl) ?_
                refine TU.one 9 z_F rfl rfl (T1.store1 rfl rfl sz_37 hsl'.one z_H (Nat.zero_le _) z_J ?_)
                refine TU.done z_F ?_
                refine T.region ?_
                refine TL.cons rfl (V1.t (V1.add rfl rfl (wrap_i64 _ (by omega) (by omega))) ?_)
                refine TL.cons rfl (V1.t (V1.move' z_B) ?_)
                refine TL.nil ?_
                exact ⟨⟨i2 + 1, badz, s', Ls', rz, ks2 ++ [xs], lz⟩, _, _, (by dsimp only; omega), (.cons rfl .nil), (.cons rfl (.cons rfl (.cons rfl (.cons rfl (.cons rfl .nil))))), z_A, ⟨rfl, by dsimp only; omega, by simpa using hsl', by simp [hc2], fun y hy => by rcases List.mem_append.1 hy with hy | hy; exact hy2 y hy; simp only [List.mem_singleton] at hy; subst hy; exact hxl, hvz, fun hb => by obtain ⟨e1, e2, e3⟩ := hkz hb; exact ⟨by rw [(hd2 e1).1, e3, e2, chunks_succ, List.drop_drop], (hd2 e1).2⟩⟩⟩
              ·
                refine TU.two 1 6 z_F rfl rfl rfl rfl (V1.t (V1.load1 one_37 rfl (.own z_D (by rfl))) ?_) (T1.buildSlN (os := [.tmp 72]) ty_37 sz_86 zr_86 (by decide) rfl (.cons z_B .nil) z_K (by rfl) (by intro y hy; simp only [List.mem_singleton] at hy; subst hy; rw [List.length_map]; exact hxl) (fun bb => ?_))
                ·
                  refine TU.one 6 z_F rfl rfl (T1.buildSlN (os := [.tmp 72]) ty_37 sz_86 zr_86 (by decide) rfl (.cons z_B .nil) z_K (by rfl) (by intro y hy; simp only [List.mem_singleton] at hy; subst hy; rw [List.length_map]; exact hxl) (fun bb => ?_))
                  refine TU.one 7 z_F rfl rfl (T1.append ty_37 kd_37 sz_86 by_86 zr_86 rfl (by decide) (by decide) rfl rfl hs2 (.sl (n := 1) (RdN.whole z_D) (by simp [hxl])) (by intro u hu; simp only [List.flatten_cons, List.flatten_nil, List.append_nil] at hu; exact one_bytes xs u hu) 100 (by have := flat_len ks2 hy2; simp only [List.length_map, List.flatten_cons, List.flatten_nil, List.append_nil, hxl]; omega) (by omega) z_C (fun s' Ls' hsl' => ?_))
                  refine TU.take 8 rfl z_F z_F z_F rfl (fun _ _ _ h => h) (fun _ => V1.fieldAddr fl_39_3 rfl) ?_
                  refine TU.one 9 z_F rfl rfl (T1.store1 rfl rfl sz_37 hsl'.one z_H (Nat.zero_le _) z_J ?_)
                  refine TU.done z_F ?_
                  refine T.region ?_
                  refine TL.cons rfl (V1.t (V1.add rfl rfl (wrap_i64 _ (by omega) (by omega))) ?_)
                  refine TL.cons rfl (V1.t (V1.move' z_B) ?_)
                  refine TL.nil ?_
                  exact ⟨⟨i2 + 1, badz, s', Ls', rz, ks2 ++ [xs], lz⟩, _, _, (by dsimp only; omega), (.cons rfl .nil), (.cons rfl (.cons rfl (.cons rfl (.cons rfl (.cons rfl .nil))))), z_A, ⟨rfl, by dsimp only; omega, by simpa using hsl', by simp [hc2], fun y hy => by rcases List.mem_append.1 hy with hy | hy; exact hy2 y hy; simp only [List.mem_singleton] at hy; subst hy; exact hxl, hvz, fun hb => by obtain ⟨e1, e2, e3⟩ := hkz hb; exact ⟨by rw [(hd2 e1).1, e3, e2, chunks_succ, List.drop_drop], (hd2 e1).2⟩⟩⟩
                ·
                  refine TU.one 1 z_F rfl rfl (V1.t (V1.load1 one_37 rfl (.own z_D (by rfl))) ?_)
                  refine TU.one 7 z_F rfl rfl (T1.append ty_37 kd_37 sz_86 by_86 zr_86 rfl (by decide) (by decide) rfl rfl hs2 (.sl (n := 1) (RdN.whole z_D) (by simp [hxl])) (by intro u hu; simp only [List.flatten_cons, List.flatten_nil, List.append_nil] at hu; exact one_bytes xs u hu) 100 (by have := flat_len ks2 hy2; simp only [List.length_map, List.flatten_cons, List.flatten_nil, List.append_nil, hxl]; omega) (by omega) z_C (fun s' Ls' hsl' => ?_))
                  refine TU.take 8 rfl z_F z_F z_F rfl (fun _ _ _ h => h) (fun _ => V1.fieldAddr fl_39_3 rfl) ?_
                  refine TU.one 9 z_F rfl rfl (T1.store1 rfl rfl sz_37 hsl'.one z_H (Nat.zero_le _) z_J ?_)
                  refine TU.done z_F ?_
                  refine T.region ?_
                  refine TL.cons rfl (V1.t (V1.add rfl rfl (wrap_i64 _ (by omega) (by omega))) ?_)
                  refine TL.cons rfl (V1.t (V1.move' z_B) ?_)
                  refine TL.nil ?_
                  exact ⟨⟨i2 + 1, badz, s', Ls', rz, ks2 ++ [xs], lz⟩, _, _, (by dsimp only; omega), (.cons rfl .nil), (.cons rfl (.cons rfl (.cons rfl (.cons rfl (.cons rfl .nil))))), z_A, ⟨rfl, by dsimp only; omega, by simpa using hsl', by simp [hc2], fun y hy => by rcases List.mem_append.1 hy with hy | hy; exact hy2 y hy; simp only [List.mem_singleton] at hy; subst hy; exact hxl, hvz, fun hb => by obtain ⟨e1, e2, e3⟩ := hkz hb; exact ⟨by rw [(hd2 e1).1, e3, e2, chunks_succ, List.drop_drop], (hd2 e1).2⟩⟩⟩
          ·
            refine TL.nil ?_
            refine T.seq ?_
            refine T.cond_f rfl ?_
            refine T.exit ?_
            refine T.seq ?_
            refine T.seq ?_
            refine T.region ?_
            refine TL.cons rfl (V1.t (V1.fieldAddr fl_81_3 rfl) ?_)
            obtain rfl : sc = i2 := by omega
            obtain ⟨n, hn⟩ : ∃ n, n = rd32 l2 0 := ⟨_, rfl⟩
            refine TL.cons rfl (V1.t (V1.load1 one_4 rfl (.own z_D (by rfl))) ?_)
            refine TL.nil ?_
            refine T.cond_t rfl ?_
            refine T.region ?_
            refine TL.cons rfl (V1.t (V1.move' z_B) ?_)
            refine TL.cons rfl (T1.callX has_32 rfl (readdata_any b10 rest2 bad2 l2 w hv2.1 (by have := hv2.2.1; omega) n hn) z_A (fun v Y hv => ?_))
            obtain ⟨rd, badd, xd, Yd, hsd, rfl, hdc⟩ := hv
            dsimp only [List.cons_append, List.nil_append]
            rcases hdc with ⟨rfl, rfl, e3, e4, e5, rfl, e7⟩ | ⟨e1, e2, e3⟩
            ·
              obtain ⟨hva, hvb, hvc⟩ := hv2
              obtain ⟨hpl, hl2⟩ : (1 + 32 * sa + 4 * sb + 64 * sc) ≤ (c1 :: tl).length ∧ l2 = (c1 :: tl).drop (1 + 32 * sa + 4 * sb + 64 * sc) := by (rcases hvc with ⟨_, h1, h2⟩ | ⟨h1, _⟩; exact ⟨h1, h2⟩; exact absurd h1 (by decide))
              subst hl2
              rw [List.drop_drop] at e7
              rw [List.length_drop] at e3 e5 e7
              obtain ⟨ra, rc, rfl⟩ := e7.form
              refine TL.cons rfl (V1.t (V1.fieldAddr fl_39_4 rfl) ?_)
              refine TL.cons rfl (T1.store1 rfl z_B sz_29 hsd.one z_H (Nat.zero_le _) z_J ?_)
              refine TL.nil ?_
              refine T.seq ?_
              refine T.seq ?_
              refine T.region ?_
              refine TL.cons rfl (V1.t (V1.move' z_B) ?_)
              refine TL.cons rfl (V1.t (V1.nilCheck rfl) ?_)
              refine TL.cons rfl (V1.t (V1.fieldAddr fl_78_1 rfl) ?_)
              refine TL.cons rfl (V1.t (V1.load1 one_25 rfl (.own z_D (by rfl))) ?_)
              refine TL.cons rfl (V1.t (V1.eqI rfl rfl (decide_eq_true (by omega))) ?_)
              refine TL.cons rfl (V1.t (V1.move' z_B) ?_)
              refine TL.cons rfl (V1.t (V1.move' z_B) ?_)
              refine TL.cons rfl (V1.t (V1.nilCheck rfl) ?_)
              refine TL.cons rfl (V1.t (V1.fieldAddr fl_78_0 rfl) ?_)
              refine TL.cons rfl (V1.t (V1.load1 one_29 rfl (.own z_D (by rfl))) ?_)
              refine TL.cons rfl (V1.t (V1.lenSl ty_29 rfl) ?_)
              refine TL.cons rfl (T1.gtI_split rfl rfl (fun h22_11 => ?_) (fun h22_11 => ?_))
              ·
                refine TL.cons rfl (V1.t (V1.pick rfl z_B) ?_)
                refine TL.nil ?_
                refine T.cond_t rfl ?_
                refine T.live (l := [(2, _), (4, _), (5, _)]) (.cons z_B (.cons z_B (.cons z_B .nil))) (fun e_ => ?_)
                refine T.region ?_
                refine TL.cons rfl (V1.t (V1.move' z_B) ?_)
                refine TL.cons rfl (V1.t (V1.nilCheck rfl) ?_)
                refine TL.cons rfl (V1.t (V1.fieldAddr fl_78_1 rfl) ?_)
                refine TL.cons rfl (T1.store1 rfl rfl sz_25 rfl z_H (Nat.zero_le _) z_J ?_)
                refine TL.nil ?_
                refine T.seq ?_
                refine T.seq ?_
                refine T.region ?_
                refine TL.cons rfl (V1.t (V1.move' z_B) ?_)
                refine TL.cons rfl (V1.t (V1.nilCheck rfl) ?_)
                refine TL.cons rfl (V1.t (V1.fieldAddr fl_78_1 rfl) ?_)
                refine TL.cons rfl (V1.t (V1.load1 one_25 rfl (.own z_D (by rfl))) ?_)
                refine TL.cons rfl (V1.t (V1.neI rfl rfl (decide_eq_true (by omega))) ?_)
                refine TL.nil ?_
                refine T.cond_t rfl ?_
                refine T.seq ?_
                refine T.drawU mixed ?_
                refine TU.take 0 rfl z_F z_F z_F rfl (fun _ _ _ h => h) (fun _ => V1.build0 pl_39 zr_39) ?_
                refine TU.take 1 rfl z_F z_F z_F rfl (fun _ _ _ h => h) (fun _ => V1.move' z_B) ?_
                refine TU.take 2 rfl z_F z_F z_F rfl (fun _ _ _ h => h) (fun _ => V1.nilCheck rfl) ?_
                refine TU.take 3 rfl z_F z_F z_F rfl (fun _ _ _ h => h) (fun _ => V1.fieldAddr fl_78_1 rfl) ?_
                refine TU.two 4 5 z_F rfl rfl rfl rfl (V1.t (V1.load1 one_25 rfl (.own z_D (by rfl))) ?_) (T1.storeN rfl rfl sz_39 (ones rfl) z_H (by rfl) (by rfl) ?_)
                ·
                  refine TU.one 5 z_F rfl rfl (T1.storeN rfl rfl sz_39 (ones rfl) z_H (by rfl) (by rfl) ?_)
                  refine TU.take 6 rfl z_F z_F z_F rfl (fun _ _ _ h => h) (fun _ => V1.assign' z_B) ?_
                  refine TU.done z_F ?_
                  refine T.ret ?_
                  exact ⟨_, [], _, .cons (.cellN rfl one_39 sz_39 (RdN.whole z_D) (by rfl)) (.cons (.tmp z_B) .nil), z_A, decR_err (by rw [decF_data rfl hshp hn, if_neg (by omega), if_neg (by omega), if_neg (by omega), if_pos (by omega)])⟩
                ·
                  refine TU.one 4 z_F rfl rfl (V1.t (V1.load1 one_25 rfl (.own z_D (by rfl))) ?_)
                  refine TU.take 6 rfl z_F z_F z_F rfl (fun _ _ _ h => h) (fun _ => V1.assign' z_B) ?_
                  refine TU.done z_F ?_
                  refine T.ret ?_
                  exact ⟨_, [], _, .cons (.cellN rfl one_39 sz_39 (RdN.whole z_D) (by rfl)) (.cons (.tmp z_B) .nil), z_A, decR_err (by rw [decF_data rfl hshp hn, if_neg (by omega), if_neg (by omega), if_neg (by omega), if_pos (by omega)])⟩
              ·
                refine TL.cons rfl (V1.t (V1.pick rfl z_B) ?_)
                refine TL.nil ?_
                refine T.cond_f rfl ?_
                refine T.skip ?_
                refine T.seq ?_
                refine T.seq ?_
                refine T.live (l := [(2, _), (4, _), (5, _)]) (.cons z_B (.cons z_B (.cons z_B .nil))) (fun e_ => ?_)
                refine T.region ?_
                refine TL.cons rfl (V1.t (V1.move' z_B) ?_)
                refine TL.cons rfl (V1.t (V1.nilCheck rfl) ?_)
                refine TL.cons rfl (V1.t (V1.fieldAddr fl_78_1 rfl) ?_)
                refine TL.cons rfl (V1.t (V1.load1 one_25 rfl (.own z_D (by rfl))) ?_)
                refine TL.cons rfl (V1.t (V1.neI rfl rfl (decide_eq_false (by omega))) ?_)
                refine TL.nil ?_
                refine T.cond_f rfl ?_
                refine T.skip ?_
                refine T.seq ?_
                refine T.region ?_
                refine TL.cons rfl (V1.t (V1.loadN one_39 sz_39 rfl (RdN.whole z_D) (by rfl)) ?_)
                refine TL.cons rfl (T1.storeN rfl rfl sz_39 (by intro u hu; simp only [List.mem_cons, List.not_mem_nil, or_false] at hu; rcases hu with rfl | rfl | rfl | rfl | rfl; rfl; exact hs0.one; exact hs1.one; exact hs2.one; exact hsd.one) z_H (by rfl) (by rfl) ?_)
                refine TL.cons rfl (V1.t (V1.assign' z_B) ?_)
                refine TL.nil ?_
                refine T.ret ?_
                obtain ⟨f2, f1⟩ := hd2 rfl
                obtain ⟨f3, f4⟩ := hd1 f1
                have f5 := hd0 f4
                exact ⟨_, Lk ++ (Ln ++ (Lx ++ Yd)), _, .cons (.cellN rfl one_39 sz_39 (RdN.whole z_D) (by rfl)) (.cons (.tmp z_B) .nil), z_A, decR_ok (by rw [decF_data rfl hshp hn, if_neg (by omega), if_neg (by omega), if_neg (by omega), if_neg (by omega), ← f5, ← f3, ← f2]) hs0 hs1 hs2 (by rw [List.drop_drop, List.take_of_length_le (by rw [List.length_drop]; omega)] at hsd; exact hsd)⟩
            ·
              refine TL.cons rfl (V1.t (V1.fieldAddr fl_39_4 rfl) ?_)
              refine TL.cons rfl (T1.store1 rfl z_B sz_29 hsd.one z_H (Nat.zero_le _) z_J ?_)
              refine TL.nil ?_
              refine T.seq ?_
              refine T.seq ?_
              refine T.region ?_
              refine TL.cons rfl (V1.t (V1.move' z_B) ?_)
              refine TL.cons rfl (V1.t (V1.nilCheck rfl) ?_)
              refine TL.cons rfl (V1.t (V1.fieldAddr fl_78_1 rfl) ?_)
              refine TL.cons rfl (V1.t (V1.load1 one_25 rfl (.own z_D (by rfl))) ?_)
              refine TL.cons rfl (V1.t (V1.eqI rfl rfl (decide_eq_false (by omega))) ?_)
              refine TL.cons rfl (V1.t (V1.move' z_B) ?_)
              refine TL.no rfl ?_
              refine TL.no rfl ?_
              refine TL.no rfl ?_
              refine TL.no rfl ?_
              refine TL.no rfl ?_
              refine TL.no rfl ?_
              refine TL.cons rfl (V1.t (V1.pick rfl z_B) ?_)
              refine TL.nil ?_
              refine T.cond_f rfl ?_
              refine T.skip ?_
              refine T.seq ?_
              refine T.seq ?_
              refine T.live (l := [(2, _), (4, _), (5, _)]) (.cons z_B (.cons z_B (.cons z_B .nil))) (fun e_ => ?_)
              refine T.region ?_
              refine TL.cons rfl (V1.t (V1.move' z_B) ?_)
              refine TL.cons rfl (V1.t (V1.nilCheck rfl) ?_)
              refine TL.cons rfl (V1.t (V1.fieldAddr fl_78_1 rfl) ?_)
              refine TL.cons rfl (V1.t (V1.load1 one_25 rfl (.own z_D (by rfl))) ?_)
              refine TL.cons rfl (V1.t (V1.neI rfl rfl (decide_eq_true (by omega))) ?_)
              refine TL.nil ?_
              refine T.cond_t rfl ?_
              refine T.seq ?_
              refine T.drawU mixed ?_
              refine TU.take 0 rfl z_F z_F z_F rfl (fun _ _ _ h => h) (fun _ => V1.build0 pl_39 zr_39) ?_
              refine TU.take 1 rfl z_F z_F z_F rfl (fun _ _ _ h => h) (fun _ => V1.move' z_B) ?_
              refine TU.take 2 rfl z_F z_F z_F rfl (fun _ _ _ h => h) (fun _ => V1.nilCheck rfl) ?_
              refine TU.take 3 rfl z_F z_F z_F rfl (fun _ _ _ h => h) (fun _ => V1.fieldAddr fl_78_1 rfl) ?_
              refine TU.two 4 5 z_F rfl rfl rfl rfl (V1.t (V1.load1 one_25 rfl (.own z_D (by rfl))) ?_) (T1.storeN rfl rfl sz_39 (ones rfl) z_H (by rfl) (by rfl) ?_)
              ·
                refine TU.one 5 z_F rfl rfl (T1.storeN rfl rfl sz_39 (ones rfl) z_H (by rfl) (by rfl) ?_)
                refine TU.take 6 rfl z_F z_F z_F rfl (fun _ _ _ h => h) (fun _ => V1.assign' z_B) ?_
                refine TU.done z_F ?_
                refine T.ret ?_
                exact ⟨_, [], _, .cons (.cellN rfl one_39 sz_39 (RdN.whole z_D) (by rfl)) (.cons (.tmp z_B) .nil), z_A, decR_err (dec_data_err hshp hv2 hn e2 e3)⟩
              ·
                refine TU.one 4 z_F rfl rfl (V1.t (V1.load1 one_25 rfl (.own z_D (by rfl))) ?_)
                refine TU.take 6 rfl z_F z_F z_F rfl (fun _ _ _ h => h) (fun _ => V1.assign' z_B) ?_
                refine TU.done z_F ?_
                refine T.ret ?_
                exact ⟨_, [], _, .cons (.cellN rfl one_39 sz_39 (RdN.whole z_D) (by rfl)) (.cons (.tmp z_B) .nil), z_A, decR_err (dec_data_err hshp hv2 hn e2 e3)⟩
    ·
      refine TL.cons rfl (V1.t (V1.move' z_B) ?_)
      refine TL.cons rfl (V1.t (V1.extract rfl (by rfl)) ?_)
      refine TL.cons rfl (V1.t (V1.extract rfl (by rfl)) ?_)
      refine TL.cons rfl (T1.allocN 4 zr_81 rfl (fun b6 => ?_))
      refine TL.cons rfl (T1.storeN rfl rfl sz_81 (ones rfl) z_H (by rfl) (by rfl) ?_)
      refine TL.cons rfl (V1.t (V1.assign' z_B) ?_)
      refine TL.nil ?_
      refine T.seq ?_
      refine T.seq ?_
      refine T.region ?_
      refine TL.cons rfl (V1.t (V1.move' z_B) ?_)
      refine TL.cons rfl (V1.t (V1.neI rfl rfl (decide_eq_false (by omega))) ?_)
      refine TL.nil ?_
      refine T.cond_f rfl ?_
      refine T.skip ?_
      refine T.seq ?_
      refine T.seq ?_
      refine T.region ?_
      refine TL.cons rfl (V1.t (V1.fieldAddr fl_81_0 rfl) ?_)
      have hinv0 : RdInv w (c1 :: tl) (1 + 32 * 0) (1 + 32 * sa + 4 * sb + 64 * sc) 0 r1 tl := ⟨by simpa using hr1, by simp, .inl ⟨rfl, by simp, rfl⟩⟩
      refine TL.cons rfl (V1.t (V1.load1 one_3 rfl (.own z_D (by rfl))) ?_)
      refine TL.cons rfl (V1.t (V1.move' z_B) ?_)
      refine TL.nil ?_
      refine T.block ?_
      refine T.loopL (σ := DG (List UInt8)) (l0 := [(2, _), (4, _), (5, _), (6, _), (38, _)]) (fun x => [(39, .int .i64 (x.i : Nat))]) (fun x L => L = ⟨b10, 0, [x.rest, .int .i64 x.bad], 2⟩ :: ⟨b5, 0, [.int .i64 (c1.toNat : Nat), x.s, .slice none 0 0, .slice none 0 0, .slice none 0 0], 5⟩ :: ⟨b6, 0, [.int .i64 sa, .int .i64 sb, .int .i64 sc, .bool false], 4⟩ :: ⟨b2, 0, [.int .i64 0, .slice none 0 0, .slice none 0 0, .slice none 0 0, .slice none 0 0], 5⟩ :: x.Ls ∧ x.i ≤ sa ∧ Sl x.s (x.ks.flatten.map byteV) 32 x.Ls ∧ x.ks.length = x.i ∧ (∀ y ∈ x.ks, y.length = 32) ∧ RdInv w (c1 :: tl) (1 + 32 * x.i) (1 + 32 * sa + 4 * sb + 64 * sc) x.bad x.rest x.l ∧ (x.bad = 0 → x.ks = chunks 32 x.i ((c1 :: tl).drop (1)))) (fun x => sa - x.i) ⟨0, 0, .slice none 0 0, [], r1, [], tl⟩ (.cons rfl .nil) (.cons z_B (.cons z_B (.cons z_B (.cons z_B (.cons z_B .nil))))) z_A (⟨rfl, Nat.zero_le _, Sl.nil, rfl, by simp, hinv0, fun _ => rfl⟩) ?_
      rintro ⟨i0, bad0, sk, Lk, rest0, ks0, l0⟩ e_ L ⟨rfl, hi0, hs0, hc0, hy0, hv0, hd0⟩
      dsimp only at hi0 hs0 hc0 hy0 hv0 hd0
      dsimp only
      refine T.seq ?_
      refine T.region ?_
      refine TL.cons rfl (T1.ltI_split rfl rfl (fun h9_0 => ?_) (fun h9_0 => ?_))
      ·
        refine TL.nil ?_
        refine T.seq ?_
        refine T.cond_t rfl ?_
        refine T.skip ?_
        refine T.seq ?_
        refine T.block ?_
        refine T.drawU mixed ?_
        refine TU.take 0 rfl z_F z_F z_F rfl (fun _ _ _ h => h) (fun _ => V1.fieldAddr fl_39_1 rfl) ?_
        refine TU.take 2 rfl z_F z_F z_F rfl (fun _ _ _ h => h) (fun _ => V1.move' z_B) ?_
        refine TU.two 1 3 z_F rfl rfl rfl rfl (V1.t (V1.load1 one_35 rfl (.own z_D (by rfl))) ?_) (T1.callX has_29 rfl (take_any b10 32 rest0 bad0 l0 w hv0.1 (by omega) (by have := hv0.2.1; omega)) z_A (fun v Y hv => ?_))
        ·
          refine TU.one 3 z_F rfl rfl (T1.callX has_29 rfl (take_any b10 32 rest0 bad0 l0 w hv0.1 (by omega) (by have := hv0.2.1; omega)) z_A (fun v Y hv => ?_))
          obtain ⟨Z, rz, badz, bk, ok, c, xs, rfl, hcap, rfl, hrd, hxl, hb2, hcase⟩ := takeR.rd (C := ⟨P, w, [], 109⟩) hv rfl (by omega) (by omega)
          dsimp only [List.cons_append, List.nil_append]
          obtain ⟨lz, hvz, hkz⟩ := hv0.go (k := 32) (by omega) hcase
          refine TU.take 4 rfl z_F z_F z_F rfl (fun _ _ _ h => h) (fun _ => V1.s2ap ty_60 rfl (by omega)) ?_
          refine TU.one 5 z_F rfl rfl (V1.t (V1.loadN one_60 sz_60 rfl (hrd _) (by rw [List.length_map]; exact hxl)) ?_)
          refine TU.one 6 z_F rfl rfl (T1.buildSlN (os := [.tmp 46]) ty_35 sz_60 zr_60 (by decide) rfl (.cons z_B .nil) z_K (by rfl) (by intro y hy; simp only [List.mem_singleton] at hy; subst hy; rw [List.length_map]; exact hxl) (fun bb => ?_))
          refine TU.one 7 z_F rfl rfl (T1.append ty_35 kd_35 sz_60 by_60 zr_60 rfl (by decide) (by decide) rfl rfl hs0 (.sl (n := 1) (RdN.whole z_D) (by simp [hxl])) (by intro u hu; simp only [List.flatten_cons, List.flatten_nil, List.append_nil] at hu; exact one_bytes xs u hu) 100 (by have := flat_len ks0 hy0; simp only [List.length_map, List.flatten_cons, List.flatten_nil, List.append_nil, hxl]; omega) (by omega) z_C (fun s' Ls' hsl' => ?_))
          refine TU.take 8 rfl z_F z_F z_F rfl (fun _ _ _ h => h) (fun _ => V1.fieldAddr fl_39_1 rfl) ?_
          refine TU.one 9 z_F rfl rfl (T1.store1 rfl rfl sz_35 hsl'.one z_H (Nat.zero_le _) z_J ?_)
          refine TU.done z_F ?_
          refine T.region ?_
          refine TL.cons rfl (V1.t (V1.add rfl rfl (wrap_i64 _ (by omega) (by omega))) ?_)
          refine TL.cons rfl (V1.t (V1.move' z_B) ?_)
          refine TL.nil ?_
          exact ⟨⟨i0 + 1, badz, s', Ls', rz, ks0 ++ [xs], lz⟩, _, _, (by dsimp only; omega), (.cons rfl .nil), (.cons rfl (.cons rfl (.cons rfl (.cons rfl (.cons rfl .nil))))), z_A, ⟨rfl, by dsimp only; omega, by simpa using hsl', by simp [hc0], fun y hy => by rcases List.mem_append.1 hy with hy | hy; exact hy0 y hy; simp only [List.mem_singleton] at hy; subst hy; exact hxl, hvz, fun hb => by obtain ⟨e1, e2, e3⟩ := hkz hb; rw [hd0 e1, e3, e2, chunks_succ, List.drop_drop]⟩⟩
        ·
          obtain ⟨Z, rz, badz, bk, ok, c, xs, rfl, hcap, rfl, hrd, hxl, hb2, hcase⟩ := takeR.rd (C := ⟨P, w, [], 109⟩) hv rfl (by omega) (by omega)
          dsimp only [List.cons_append, List.nil_append]
          obtain ⟨lz, hvz, hkz⟩ := hv0.go (k := 32) (by omega) hcase
          refine TU.take 4 rfl z_F z_F z_F rfl (fun _ _ _ h => h) (fun _ => V1.s2ap ty_60 rfl (by omega)) ?_
          refine TU.two 1 5 z_F rfl rfl rfl rfl (V1.t (V1.load1 one_35 rfl (.own z_D (by rfl))) ?_) (V1.t (V1.loadN one_60 sz_60 rfl (hrd _) (by rw [List.length_map]; exact hxl)) ?_)
          ·
            refine TU.one 5 z_F rfl rfl (V1.t (V1.loadN one_60 sz_60 rfl (hrd _) (by rw [List.length_map]; exact hxl)) ?_)
            refine TU.one 6 z_F rfl rfl (T1.buildSlN (os := [.tmp 46]) ty_35 sz_60 zr_60 (by decide) rfl (.cons z_B .nil) z_K (by rfl) (by intro y hy; simp only [List.mem_singleton] at hy; subst hy; rw [List.length_map]; exact hxl) (fun bb => ?_))
            refine TU.one 7 z_F rfl rfl (T1.append ty_35 kd_35 sz_60 by_60 zr_60 rfl (by decide) (by decide) rfl rfl hs0 (.sl (n := 1) (RdN.whole z_D) (by simp [hxl])) (by intro u hu; simp only [List.flatten_cons, List.flatten_nil, List.append_nil] at hu; exact one_bytes xs u hu) 100 (by have := flat_len ks0 hy0; simp only [List.length_map, List.flatten_cons, List.flatten_nil, List.append_nil, hxl]; omega) (by omega) z_C (fun s' Ls' hsl' => ?_))
            refine TU.take 8 rfl z_F z_F z_F rfl (fun _ _ _ h => h) (fun _ => V1.fieldAddr fl_39_1 rfl) ?_
            refine TU.one 9 z_F rfl rfl (T1.store1 rfl rfl sz_35 hsl'.one z_H (Nat.zero_le _) z_J ?_)
            refine TU.done z_F ?_
            refine T.region ?_
            refine TL.cons rfl (V1.t (V1.add rfl rfl (wrap_i64 _ (by omega) (by omega))) ?_)
            refine TL.cons rfl (V1.t (V1.move' z_B) ?_)
            refine TL.nil ?_
            exact ⟨⟨i0 + 1, badz, s', Ls', rz, ks0 ++ [xs], lz⟩, _, _, (by dsimp only; omega), (.cons rfl .nil), (.cons rfl (.cons rfl (.cons rfl (.cons rfl (.cons rfl .nil))))), z_A, ⟨rfl, by dsimp only; omega, by simpa using hsl', by simp [hc0], fun y hy => by rcases List.mem_append.1 hy with hy | hy; exact hy0 y hy; simp only [List.mem_singleton] at hy; subst hy; exact hxl, hvz, fun hb => by obtain ⟨e1, e2, e3⟩ := hkz hb; rw [hd0 e1, e3, e2, chunks_succ, List.drop_drop]⟩⟩
          ·
            refine TU.two 1 6 z_F rfl rfl rfl rfl (V1.t (V1.load1 one_35 rfl (.own z_D (by rfl))) ?_) (T1.buildSlN (os := [.tmp 46]) ty_35 sz_60 zr_60 (by decide) rfl (.cons z_B .nil) z_K (by rfl) (by intro y hy; simp only [List.mem_singleton] at hy; subst hy; rw [List.length_map]; exact hxl) (fun bb => ?_))
            ·
              refine TU.one 6 z_F rfl rfl (T1.buildSlN (os := [.tmp 46]) ty_35 sz_60 zr_60 (by decide) rfl (.cons z_B .nil) z_K (by rfl) (by intro y hy; simp only [List.mem_singleton] at hy; subst hy; rw [List.length_map]; exact hxl) (fun bb => ?_))
              refine TU.one 7 z_F rfl rfl (T1.append ty_35 kd_35 sz_60 by_60 zr_60 rfl (by decide) (by decide) rfl rfl hs0 (.sl (n := 1) (RdN.whole z_D) (by simp [hxl])) (by intro u hu; simp only [List.flatten_cons, List.flatten_nil, List.append_nil] at hu; exact one_bytes xs u hu) 100 (by have := flat_len ks0 hy0; simp only [List.length_map, List.flatten_cons, List.flatten_nil, List.append_nil, hxl]; omega) (by omega) z_C (fun s' Ls' hsl' => ?_))
              refine TU.take 8 rfl z_F z_F z_F rfl (fun _ _ _ h => h) (fun _ => V1.fieldAddr fl_39_1 rfl) ?_
              refine TU.one 9 z_F rfl rfl (T1.store1 rfl rfl sz_35 hsl'.one z_H (Nat.zero_le _) z_J ?_)
              refine TU.done z_F ?_
              refine T.region ?_
              refine TL.cons rfl (V1.t (V1.add rfl rfl (wrap_i64 _ (by omega) (by omega))) ?_)
              refine TL.cons rfl (V1.t (V1.move' z_B) ?_)
              refine TL.nil ?_
              exact ⟨⟨i0 + 1, badz, s', Ls', rz, ks0 ++ [xs], lz⟩, _, _, (by dsimp only; omega), (.cons rfl .nil), (.cons rfl (.cons rfl (.cons rfl (.cons rfl (.cons rfl .nil))))), z_A, ⟨rfl, by dsimp only; omega, by simpa using hsl', by simp [hc0], fun y hy => by rcases List.mem_append.1 hy with hy | hy; exact hy0 y hy; simp only [List.mem_singleton] at hy; subst hy; exact hxl, hvz, fun hb => by obtain ⟨e1, e2, e3⟩ := hkz hb; rw [hd0 e1, e3, e2, chunks_succ, List.drop_drop]⟩⟩
            ·
              refine TU.one 1 z_F rfl rfl (V1.t (V1.load1 one_35 rfl (.own z_D (by rfl))) ?_)
              refine TU.one 7 z_F rfl rfl (T1.append ty_35 kd_35 sz_60 by_60 zr_60 rfl (by decide) (by decide) rfl rfl hs0 (.sl (n := 1) (RdN.whole z_D) (by simp [hxl])) (by intro u hu; simp only [List.flatten_cons, List.flatten_nil, List.append_nil] at hu; exact one_bytes xs u hu) 100 (by have := flat_len ks0 hy0; simp only [List.length_map, List.flatten_cons, List.flatten_nil, List.append_nil, hxl]; omega) (by omega) z_C (fun s' Ls' hsl' => ?_))
              refine TU.take 8 rfl z_F z_F z_F rfl (fun _ _ _ h => h) (fun _ => V1.fieldAddr fl_39_1 rfl) ?_
              refine TU.one 9 z_F rfl rfl (T1.store1 rfl rfl sz_35 hsl'.one z_H (Nat.zero_le _) z_J ?_)
              refine TU.done z_F ?_
              refine T.region ?_
              refine TL.cons rfl (V1.t (V1.add rfl rfl (wrap_i64 _ (by omega) (by omega))) ?_)
              refine TL.cons rfl (V1.t (V1.move' z_B) ?_)
              refine TL.nil ?_
              exact ⟨⟨i0 + 1, badz, s', Ls', rz, ks0 ++ [xs], lz⟩, _, _, (by dsimp only; omega), (.cons rfl .nil), (.cons rfl (.cons rfl (.cons rfl (.cons rfl (.cons rfl .nil))))), z_A, ⟨rfl, by dsimp only; omega, by simpa using hsl', by simp [hc0], fun y hy => by rcases List.mem_append.1 hy with hy | hy; exact hy0 y hy; simp only [List.mem_singleton] at hy; subst hy; exact hxl, hvz, fun hb => by obtain ⟨e1, e2, e3⟩ := hkz hb; rw [hd0 e1, e3, e2, chunks_succ, List.drop_drop]⟩⟩
      ·
        refine TL.nil ?_
        refine T.seq ?_
        refine T.cond_f rfl ?_
        refine T.exit ?_
        refine T.seq ?_
        refine T.seq ?_
        refine T.region ?_
        refine TL.cons rfl (V1.t (V1.fieldAddr fl_81_1 rfl) ?_)
        refine TL.cons rfl (V1.t (V1.load1 one_3 rfl (.own z_D (by rfl))) ?_)
        refine TL.cons rfl (V1.t (V1.move' z_B) ?_)
        refine TL.nil ?_
        refine T.block ?_
        obtain rfl : sa = i0 := by omega
        refine T.loopL (σ := DG Nat) (l0 := [(2, _), (4, _), (5, _), (6, _), (52, _)]) (fun x => [(53, .int .i64 (x.i : Nat))]) (fun x L => L = ⟨b10, 0, [x.rest, .int .i64 x.bad], 2⟩ :: ⟨b5, 0, [.int .i64 (c1.toNat : Nat), sk, x.s, .slice none 0 0, .slice none 0 0], 5⟩ :: ⟨b6, 0, [.int .i64 sa, .int .i64 sb, .int .i64 sc, .bool false], 4⟩ :: ⟨b2, 0, [.int .i64 0, .slice none 0 0, .slice none 0 0, .slice none 0 0, .slice none 0 0], 5⟩ :: (x.Ls ++ Lk) ∧ x.i ≤ sb ∧ Sl x.s (x.ks.map u32V) 1 x.Ls ∧ x.ks.length = x.i ∧ RdInv w (c1 :: tl) (1 + 32 * sa + 4 * x.i) (1 + 32 * sa + 4 * sb + 64 * sc) x.bad x.rest x.l ∧ (x.bad = 0 → x.ks = nums32 x.i ((c1 :: tl).drop (1 + 32 * sa)) ∧ bad0 = 0)) (fun x => sb - x.i) ⟨0, bad0, .slice none 0 0, [], rest0, [], l0⟩ (.cons rfl .nil) (.cons z_B (.cons z_B (.cons z_B (.cons z_B (.cons z_B .nil))))) z_A (⟨rfl, Nat.zero_le _, Sl.nil, rfl, hv0, fun h => ⟨rfl, h⟩⟩) ?_
        rintro ⟨i1, bad1, sn, Ln, rest1, ks1, l1⟩ e_ L ⟨rfl, hi1, hs1, hc1, hv1, hd1⟩
        dsimp only at hi1 hs1 hc1 hv1 hd1
        dsimp only
        refine T.seq ?_
        refine T.region ?_
        refine TL.cons rfl (T1.ltI_split rfl rfl (fun h13_0 => ?_) (fun h13_0 => ?_))
        ·
          refine TL.nil ?_
          refine T.seq ?_
          refine T.cond_t rfl ?_
          refine T.skip ?_
          refine T.seq ?_
          refine T.block ?_
          refine T.drawU mixed ?_
          refine TU.take 0 rfl z_F z_F z_F rfl (fun _ _ _ h => h) (fun _ => V1.fieldAddr fl_39_2 rfl) ?_
          refine TU.take 2 rfl z_F z_F z_F rfl (fun _ _ _ h => h) (fun _ => V1.move' z_B) ?_
          refine TU.two 1 3 z_F rfl rfl rfl rfl (V1.t (V1.load1 one_36 rfl (.own z_D (by rfl))) ?_) (T1.callX has_31 rfl (readnumber_any b10 rest1 bad1 l1 w hv1.1 (by have := hv1.2.1; omega)) z_A (fun v Y hv => ?_))
          ·
            refine TU.one 3 z_F rfl rfl (T1.callX has_31 rfl (readnumber_any b10 rest1 bad1 l1 w hv1.1 (by have := hv1.2.1; omega)) z_A (fun v Y hv => ?_))
            obtain ⟨rz, badz, n, rfl, rfl, hcase⟩ := hv
            dsimp only [List.cons_append, List.nil_append]
            obtain ⟨lz, hvz, hkz⟩ := hv1.go (k := 4) (by omega) hcase
            refine TU.one 4 z_F rfl rfl (T1.buildSl1 (os := [.tmp 58]) ty_36 sz_27 zr_27 (by decide) rfl (.cons z_B .nil) rfl (ones rfl) (fun b59 => ?_))
            refine TU.one 5 z_F rfl rfl (T1.append ty_36 kd_36 sz_27 by_27 zr_27 rfl (by decide) (by decide) rfl rfl hs1 (.sl (n := 1) (RdN.whole z_D) (by rfl)) (ones rfl) 100 (by simp only [List.length_map, List.length_cons, List.length_nil]; omega) (by omega) z_C (fun s' Ls' hsl' => ?_))
            refine TU.take 6 rfl z_F z_F z_F rfl (fun _ _ _ h => h) (fun _ => V1.fieldAddr fl_39_2 rfl) ?_
            refine TU.one 7 z_F rfl rfl (T1.store1 rfl rfl sz_36 hsl'.one z_H (Nat.zero_le _) z_J ?_)
            refine TU.done z_F ?_
            refine T.region ?_
            refine TL.cons rfl (V1.t (V1.add rfl rfl (wrap_i64 _ (by omega) (by omega))) ?_)
            refine TL.cons rfl (V1.t (V1.move' z_B) ?_)
            refine TL.nil ?_
            exact ⟨⟨i1 + 1, badz, s', Ls', rz, ks1 ++ [n], lz⟩, _, _, (by dsimp only; omega), (.cons rfl .nil), (.cons rfl (.cons rfl (.cons rfl (.cons rfl (.cons rfl .nil))))), z_A, ⟨rfl, by dsimp only; omega, by simpa [u32V] using hsl', by simp [hc1], hvz, fun hb => by obtain ⟨e1, e2, e3⟩ := hkz hb; exact ⟨by rw [(hd1 e1).1, e3, e2, nums32_succ, List.drop_drop], (hd1 e1).2⟩⟩⟩
          ·
            obtain ⟨rz, badz, n, rfl, rfl, hcase⟩ := hv
            dsimp only [List.cons_append, List.nil_append]
            obtain ⟨lz, hvz, hkz⟩ := hv1.go (k := 4) (by omega) hcase
            refine TU.two 1 4 z_F rfl rfl rfl rfl (V1.t (V1.load1 one_36 rfl (.own z_D (by rfl))) ?_) (T1.buildSl1 (os := [.tmp 58]) ty_36 sz_27 zr_27 (by decide) rfl (.cons z_B .nil) rfl (ones rfl) (fun b59 => ?_))
            ·
              refine TU.one 4 z_F rfl rfl (T1.buildSl1 (os := [.tmp 58]) ty_36 sz_27 zr_27 (by decide) rfl (.cons z_B .nil) rfl (ones rfl) (fun b59 => ?_))
              refine TU.one 5 z_F rfl rfl (T1.append ty_36 kd_36 sz_27 by_27 zr_27 rfl (by decide) (by decide) rfl rfl hs1 (.sl (n := 1) (RdN.whole z_D) (by rfl)) (ones rfl) 100 (by simp only [List.length_map, List.length_cons, List.length_nil]; omega) (by omega) z_C (fun s' Ls' hsl' => ?_))
              refine TU.take 6 rfl z_F z_F z_F rfl (fun _ _ _ h => h) (fun _ => V1.fieldAddr fl_39_2 rfl) ?_
              refine TU.one 7 z_F rfl rfl (T1.store1 rfl rfl sz_36 hsl'.one z_H (Nat.zero_le _) z_J ?_)
              refine TU.done z_F ?_
              refine T.region ?_
              refine TL.cons rfl (V1.t (V1.add rfl rfl (wrap_i64 _ (by omega) (by omega))) ?_)
              refine TL.cons rfl (V1.t (V1.move' z_B) ?_)
              refine TL.nil ?_
              exact ⟨⟨i1 + 1, badz, s', Ls', rz, ks1 ++ [n], lz⟩, _, _, (by dsimp only; omega), (.cons rfl .nil), (.cons rfl (.cons rfl (.cons rfl (.cons rfl (.cons rfl .nil))))), z_A, ⟨rfl, by dsimp only; omega, by simpa [u32V] using hsl', by simp [hc1], hvz, fun hb => by obtain ⟨e1, e2, e3⟩ := hkz hb; exact ⟨by rw [(hd1 e1).1, e3, e2, nums32_succ, List.drop_drop], (hd1 e1).2⟩⟩⟩
            ·
              refine TU.one 1 z_F rfl rfl (V1.t (V1.load1 one_36 rfl (.own z_D (by rfl))) ?_)
              refine TU.one 5 z_F rfl rfl (T1.append ty_36 kd_36 sz_27 by_27 zr_27 rfl (by decide) (by decide) rfl rfl hs1 (.sl (n := 1) (RdN.whole z_D) (by rfl)) (ones rfl) 100 (by simp only [List.length_map, List.length_cons, List.length_nil]; omega) (by omega) z_C (fun s' Ls' hsl' => ?_))
              refine TU.take 6 rfl z_F z_F z_F rfl (fun _ _ _ h => h) (fun _ => V1.fieldAddr fl_39_2 rfl) ?_
              refine TU.one 7 z_F rfl rfl (T1.store1 rfl rfl sz_36 hsl'.one z_H (Nat.zero_le _) z_J ?_)
              refine TU.done z_F ?_
              refine T.region ?_
              refine TL.cons rfl (V1.t (V1.add rfl rfl (wrap_i64 _ (by omega) (by omega))) ?_)
              refine TL.cons rfl (V1.t (V1.move' z_B) ?_)
              refine TL.nil ?_
              exact ⟨⟨i1 + 1, badz, s', Ls', rz, ks1 ++ [n], lz⟩, _, _, (by dsimp only; omega), (.cons rfl .nil), (.cons rfl (.cons rfl (.cons rfl (.cons rfl (.cons rfl .nil))))), z_A, ⟨rfl, by dsimp only; omega, by simpa [u32V] using hsl', by simp [hc1], hvz, fun hb => by obtain ⟨e1, e2, e3⟩ := hkz hb; exact ⟨by rw [(hd1 e1).1, e3, e2, nums32_succ, List.drop_drop], (hd1 e1).2⟩⟩⟩
        ·
          refine TL.nil ?_
          refine T.seq ?_
          refine T.cond_f rfl ?_
          refine T.exit ?_
          refine T.seq ?_
          refine T.seq ?_
          refine T.region ?_
          refine TL.cons rfl (V1.t (V1.fieldAddr fl_81_2 rfl) ?_)
          refine TL.cons rfl (V1.t (V1.load1 one_3 rfl (.own z_D (by rfl))) ?_)
          refine TL.cons rfl (V1.t (V1.move' z_B) ?_)
          refine TL.nil ?_
          refine T.block ?_
          obtain rfl : sb = i1 := by omega
          refine T.loopL (σ := DG (List UInt8)) (l0 := [(2, _), (4, _), (5, _), (6, _), (64, _)]) (fun x => [(65, .int .i64 (x.i : Nat))]) (fun x L => L = ⟨b10, 0, [x.rest, .int .i64 x.bad], 2⟩ :: ⟨b5, 0, [.int .i64 (c1.toNat : Nat), sk, sn, x.s, .slice none 0 0], 5⟩ :: ⟨b6, 0, [.int .i64 sa, .int .i64 sb, .int .i64 sc, .bool false], 4⟩ :: ⟨b2, 0, [.int .i64 0, .slice none 0 0, .slice none 0 0, .slice none 0 0, .slice none 0 0], 5⟩ :: (x.Ls ++ (Ln ++ Lk)) ∧ x.i ≤ sc ∧ Sl x.s (x.ks.flatten.map byteV) 64 x.Ls ∧ x.ks.length = x.i ∧ (∀ y ∈ x.ks, y.length = 64) ∧ RdInv w (c1 :: tl) (1 + 32 * sa + 4 * sb + 64 * x.i) (1 + 32 * sa + 4 * sb + 64 * sc) x.bad x.rest x.l ∧ (x.bad = 0 → x.ks = chunks 64 x.i ((c1 :: tl).drop (1 + 32 * sa + 4 * sb)) ∧ bad1 = 0)) (fun x => sc - x.i) ⟨0, bad1, .slice none 0 0, [], rest1, [], l1⟩ (.cons rfl .nil) (.cons z_B (.cons z_B (.cons z_B (.cons z_B (.cons z_B .nil))))) z_A (⟨rfl, Nat.zero_le _, Sl.nil, rfl, by simp, hv1, fun h => ⟨rfl, h⟩⟩) ?_
          rintro ⟨i2, bad2, sx, Lx, rest2, ks2, l2⟩ e_ L ⟨rfl, hi2, hs2, hc2, hy2, hv2, hd2⟩
          dsimp only at hi2 hs2 hc2 hy2 hv2 hd2
          dsimp only
          refine T.seq ?_
          refine T.region ?_
          refine TL.cons rfl (T1.ltI_split rfl rfl (fun h17_0 => ?_) (fun h17_0 => ?_))
          ·
            refine TL.nil ?_
            refine T.seq ?_
            refine T.cond_t rfl ?_
            refine T.skip ?_
            refine T.seq ?_
            refine T.block ?_
            refine T.drawU mixed ?_
            refine TU.take 0 rfl z_F z_F z_F rfl (fun _ _ _ h => h) (fun _ => V1.fieldAddr fl_39_3 rfl) ?_
            refine TU.take 2 rfl z_F z_F z_F rfl (fun _ _ _ h => h) (fun _ => V1.move' z_B) ?_
            refine TU.two 1 3 z_F rfl rfl rfl rfl (V1.t (V1.load1 one_37 rfl (.own z_D (by rfl))) ?_) (T1.callX has_29 rfl (take_any b10 64 rest2 bad2 l2 w hv2.1 (by omega) (by have := hv2.2.1; omega)) z_A (fun v Y hv => ?_))
            ·
              refine TU.one 3 z_F rfl rfl (T1.callX has_29 rfl (take_any b10 64 rest2 bad2 l2 w hv2.1 (by omega) (by have := hv2.2.1; omega)) z_A (fun v Y hv => ?_))
              obtain ⟨Z, rz, badz, bk, ok, c, xs, rfl, hcap, rfl, hrd, hxl, hb2, hcase⟩ := takeR.rd (C := ⟨P, w, [], 109⟩) hv rfl (by omega) (by omega)
              dsimp only [List.cons_append, List.nil_append]
              obtain ⟨lz, hvz, hkz⟩ := hv2.go (k := 64) (by omega) hcase
              refine TU.take 4 rfl z_F z_F z_F rfl (fun _ _ _ h => h) (fun _ => V1.s2ap ty_86 rfl (by omega)) ?_
              refine TU.one 5 z_F rfl rfl (V1.t (V1.loadN one_86 sz_86 rfl (hrd _) (by rw [List.length_map]; exact hxl)) ?_)
              refine TU.one 6 z_F rfl rfl (T1.buildSlN (os := [.tmp 72]) ty_37 sz_86 zr_86 (by decide) rfl (.cons z_B .nil) z_K (by rfl) (by intro y hy; simp only [List.mem_singleton] at hy; subst hy; rw [List.length_map]; exact hxl) (fun bb => ?_))
              refine TU.one 7 z_F rfl rfl (T1.append ty_37 kd_37 sz_86 by_86 zr_86 rfl (by decide) (by decide) rfl rfl hs2 (.sl (n := 1) (RdN.whole z_D) (by simp [hxl])) (by intro u hu; simp only [List.flatten_cons, List.flatten_nil, List.append_nil] at hu; exact one_bytes xs u hu) 100 (by have := flat_len ks2 hy2; simp only [List.length_map, List.flatten_cons, List.flatten_nil, List.append_nil, hxl]; omega) (by omega) z_C (fun s' Ls' hsl' => ?_))
              refine TU.take 8 rfl z_F z_F z_F rfl (fun _ _ _ h => h) (fun _ => V1.fieldAddr fl_39_3 rfl) ?_
              refine TU.one 9 z_F rfl rfl (T1.store1 rfl rfl sz_37 hsl'.one z_H (Nat.zero_le _) z_J ?_)
              refine TU.done z_F ?_
              refine T.region ?_
              refine TL.cons rfl (V1.t (V1.add rfl rfl (wrap_i64 _ (by omega) (by omega))) ?_)
              refine TL.cons rfl (V1.t (V1.move' z_B) ?_)
              refine TL.nil ?_
              exact ⟨⟨i2 + 1, badz, s', Ls', rz, ks2 ++ [xs], lz⟩, _, _, (by dsimp only; omega), (.cons rfl .nil), (.cons rfl (.cons rfl (.cons rfl (.cons rfl (.cons rfl .nil))))), z_A, ⟨rfl, by dsimp only; omega, by simpa using hsl', by simp [hc2], fun y hy => by rcases List.mem_append.1 hy with hy | hy; exact hy2 y hy; simp only [List.mem_singleton] at hy; subst hy; exact hxl, hvz, fun hb => by obtain ⟨e1, e2, e3⟩ := hkz hb; exact ⟨by rw [(hd2 e1).1, e3, e2, chunks_succ, List.drop_drop], (hd2 e1).2⟩⟩⟩
            ·
              obtain ⟨Z, rz, badz, bk, ok, c, xs, rfl, hcap, rfl, hrd, hxl, hb2, hcase⟩ := takeR.rd (C := ⟨P, w, [], 109⟩) hv rfl (by omega) (by omega)
              dsimp only [List.cons_append, List.nil_append]
              obtain ⟨lz, hvz, hkz⟩ := hv2.go (k := 64) (by omega) hcase
              refine TU.take 4 rfl z_F z_F z_F rfl (fun _ _ _ h => h) (fun _ => V1.s2ap ty_86 rfl (by omega)) ?_
              refine TU.two 1 5 z_F rfl rfl rfl rfl (V1.t (V1.load1 one_37 rfl (.own z_D (by rfl))) ?_) (V1.t (V1.loadN one_86 sz_86 rfl (hrd _) (by rw [List.length_map]; exact hxl)) ?_)
              ·
                refine TU.one 5 z_F rfl rfl (V1.t (V1.loadN one_86 sz_86 rfl (hrd _) (by rw [List.length_map]; exact hxl)) ?_)
                refine TU.one 6 z_F rfl rfl (T1.buildSlN (os := [.tmp 72]) ty_37 sz_86 zr_86 (by decide) rfl (.cons z_B .nil) z_K (by rfl) (by intro y hy; simp only [List.mem_singleton] at hy; subst hy; rw [List.length_map]; exact hxl) (fun bb => ?_))
                refine TU.one 7 z_F rfl rfl (T1.append ty_37 kd_37 sz_86 by_86 zr_86 rfl (by decide) (by decide) rfl rfl hs2 (.sl (n := 1) (RdN.whole z_D) (by simp [hxl])) (by intro u hu; simp only [List.flatten_cons, List.flatten_nil, List.append_nil] at hu; exact one_bytes xs u hu) 100 (by have := flat_len ks2 hy2; simp only [List.length_map, List.flatten_cons, List.flatten_nil, List.append_nil, hxl]; omega) (by omega) z_C (fun s' Ls' hsl' => ?_))
                refine TU.take 8 rfl z_F z_F z_F rfl (fun _ _ _ h => h) (fun _ => V1.fieldAddr fl_39_3 rfl) ?_
                refine TU.one 9 z_F rfl rfl (T1.store1 rfl rfl sz_37 hsl'.one z_H (Nat.zero_le _) z_J ?_)
                refine TU.done z_F ?_
                refine T.region ?_
                refine TL.cons rfl (V1.t (V1.add rfl rfl (wrap_i64 _ (by omega) (by omega))) ?_)
                refine TL.cons rfl (V1.t (V1.move' z_B) ?_)
                refine TL.nil ?_
                exact ⟨⟨i2 + 1, badz, s', Ls', rz, ks2 ++ [xs], lz⟩, _, _, (by dsimp only; omega), (.cons rfl .nil), (.cons rfl (.cons rfl (.cons rfl (.cons rfl (.cons rfl .nil))))), z_A, ⟨rfl, by dsimp only; omega, by simpa using hsl', by simp [hc2], fun y hy => by rcases List.mem_append.1 hy with hy | hy; exact hy2 y hy; simp only [List.mem_singleton] at hy; subst hy; exact hxl, hvz, fun hb => by obtain ⟨e1, e2, e3⟩ := hkz hb; exact ⟨by rw [(hd2 e1).1, e3, e2, chunks_succ, List.drop_drop], (hd2 e1).2⟩⟩⟩
              ·
                refine TU.two 1 6 z_F rfl rfl rfl rfl (V1.t (V1.load1 one_37 rfl (.own z_D (by rfl))) ?_) (T1.buildSlN (os := [.tmp 72]) ty_37 sz_86 zr_86 (by decide) rfl (.cons z_B .nil) z_K (by rfl) (by intro y hy; simp only [List.mem_singleton] at hy; subst hy; rw [List.length_map]; exact hxl) (fun bb => ?_))
                ·
                  refine TU.one 6 z_F rfl rfl (T1.buildSlN (os := [.tmp 72]) ty_37 sz_86 zr_86 (by decide) rfl (.cons z_B .nil) z_K (by rfl) (by intro y hy; simp only [List.mem_singleton] at hy; subst hy; rw [List.length_map]; exact hxl) (fun bb => ?_))
                  refine TU.one 7 z_F rfl rfl (T1.append ty_37 kd_37 sz_86 by_86 zr_86 rfl (by decide) (by decide) rfl rfl hs2 (.sl (n := 1) (RdN.whole z_D) (by simp [hxl])) (by intro u hu; simp only [List.flatten_cons, List.flatten_nil, List.append_nil] at hu; exact one_bytes xs u hu) 100 (by have := flat_len ks2 hy2; simp only [List.length_map, List.flatten_cons, List.flatten_nil, List.append_nil, hxl]; omega) (by omega) z_C (fun s' Ls' hsl' => ?_))
                  refine TU.take 8 rfl z_F z_F z_F rfl (fun _ _ _ h => h) (fun _ => V1.fieldAddr fl_39_3 rfl) ?_
                  refine TU.one 9 z_F rfl rfl (T1.store1 rfl rfl sz_37 hsl'.one z_H (Nat.zero_le _) z_J ?_)
                  refine TU.done z_F ?_
                  refine T.region ?_
                  refine TL.cons rfl (V1.t (V1.add rfl rfl (wrap_i64 _ (by omega) (by omega))) ?_)
                  refine TL.cons rfl (V1.t (V1.move' z_B) ?_)
                  refine TL.nil ?_
                  exact ⟨⟨i2 + 1, badz, s', Ls', rz, ks2 ++ [xs], lz⟩, _, _, (by dsimp only; omega), (.cons rfl .nil), (.cons rfl (.cons rfl (.cons rfl (.cons rfl (.cons rfl .nil))))), z_A, ⟨rfl, by dsimp only; omega, by simpa using hsl', by simp [hc2], fun y hy => by rcases List.mem_append.1 hy with hy | hy; exact hy2 y hy; simp only [List.mem_singleton] at hy; subst hy; exact hxl, hvz, fun hb => by obtain ⟨e1, e2, e3⟩ := hkz hb; exact ⟨by rw [(hd2 e1).1, e3, e2, chunks_succ, List.drop_drop], (hd2 e1).2⟩⟩⟩
                ·
                  refine TU.one 1 z_F rfl rfl (V1.t (V1.load1 one_37 rfl (.own z_D (by rfl))) ?_)
                  refine TU.one 7 z_F rfl rfl (T1.append ty_37 kd_37 sz_86 by_86 zr_86 rfl (by decide) (by decide) rfl rfl hs2 (.sl (n := 1) (RdN.whole z_D) (by simp [hxl])) (by intro u hu; simp only [List.flatten_cons, List.flatten_nil, List.append_nil] at hu; exact one_bytes xs u hu) 100 (by have := flat_len ks2 hy2; simp only [List.length_map, List.flatten_cons, List.flatten_nil, List.append_nil, hxl]; omega) (by omega) z_C (fun s' Ls' hsl' => ?_))
                  refine TU.take 8 rfl z_F z_F z_F rfl (fun _ _ _ h => h) (fun _ => V1.fieldAddr fl_39_3 rfl) ?_
                  refine TU.one 9 z_F rfl rfl (T1.store1 rfl rfl sz_37 hsl'.one z_H (Nat.zero_le _) z_J ?_)
                  refine TU.done z_F ?_
                  refine T.region ?_
                  refine TL.cons rfl (V1.t (V1.add rfl rfl (wrap_i64 _ (by omega) (by omega))) ?_)
                  refine TL.cons rfl (V1.t (V1.move' z_B) ?_)
                  refine TL.nil ?_
                  exact ⟨⟨i2 + 1, badz, s', Ls', rz, ks2 ++ [xs], lz⟩, _, _, (by dsimp only; omega), (.cons rfl .nil), (.cons rfl (.cons rfl (.cons rfl (.cons rfl (.cons rfl .nil))))), z_A, ⟨rfl, by dsimp only; omega, by simpa using hsl', by simp [hc2], fun y hy => by rcases List.mem_append.1 hy with hy | hy; exact hy2 y hy; simp only [List.mem_singleton] at hy; subst hy; exact hxl, hvz, fun hb => by obtain ⟨e1, e2, e3⟩ := hkz hb; exact ⟨by rw [(hd2 e1).1, e3, e2, chunks_succ, List.drop_drop], (hd2 e1).2⟩⟩⟩
          ·
            refine TL.nil ?_
            refine T.seq ?_
            refine T.cond_f rfl ?_
            refine T.exit ?_
            refine T.seq ?_
            refine T.seq ?_
            refine T.region ?_
            refine TL.cons rfl (V1.t (V1.fieldAddr fl_81_3 rfl) ?_)
            obtain rfl : sc = i2 := by omega
            obtain ⟨hva, hvb, hvc⟩ := hv2
            rcases hvc with ⟨rfl, hpl, rfl⟩ | ⟨rfl, hlt⟩
            ·
              obtain ⟨ra, rc, rfl⟩ := hva.form
              refine TL.cons rfl (V1.t (V1.load1 one_4 rfl (.own z_D (by rfl))) ?_)
              refine TL.nil ?_
              refine T.cond_f rfl ?_
              refine T.skip ?_
              refine T.seq ?_
              refine T.seq ?_
              refine T.region ?_
              refine TL.cons rfl (V1.t (V1.move' z_B) ?_)
              refine TL.cons rfl (V1.t (V1.nilCheck rfl) ?_)
              refine TL.cons rfl (V1.t (V1.fieldAddr fl_78_1 rfl) ?_)
              refine TL.cons rfl (V1.t (V1.load1 one_25 rfl (.own z_D (by rfl))) ?_)
              refine TL.cons rfl (V1.t (V1.eqI rfl rfl (decide_eq_true (by omega))) ?_)
              refine TL.cons rfl (V1.t (V1.move' z_B) ?_)
              refine TL.cons rfl (V1.t (V1.move' z_B) ?_)
              refine TL.cons rfl (V1.t (V1.nilCheck rfl) ?_)
              refine TL.cons rfl (V1.t (V1.fieldAddr fl_78_0 rfl) ?_)
              refine TL.cons rfl (V1.t (V1.load1 one_29 rfl (.own z_D (by rfl))) ?_)
              refine TL.cons rfl (V1.t (V1.lenSl ty_29 rfl) ?_)
              refine TL.cons rfl (T1.gtI_split rfl rfl (fun h22_11 => ?_) (fun h22_11 => ?_))
              ·
                refine TL.cons rfl (V1.t (V1.pick rfl z_B) ?_)
                refine TL.nil ?_
                refine T.cond_t rfl ?_
                refine T.live (l := [(2, _), (4, _), (5, _)]) (.cons z_B (.cons z_B (.cons z_B .nil))) (fun e_ => ?_)
                refine T.region ?_
                refine TL.cons rfl (V1.t (V1.move' z_B) ?_)
                refine TL.cons rfl (V1.t (V1.nilCheck rfl) ?_)
                refine TL.cons rfl (V1.t (V1.fieldAddr fl_78_1 rfl) ?_)
                refine TL.cons rfl (T1.store1 rfl rfl sz_25 rfl z_H (Nat.zero_le _) z_J ?_)
                refine TL.nil ?_
                refine T.seq ?_
                refine T.seq ?_
                refine T.region ?_
                refine TL.cons rfl (V1.t (V1.move' z_B) ?_)
                refine TL.cons rfl (V1.t (V1.nilCheck rfl) ?_)
                refine TL.cons rfl (V1.t (V1.fieldAddr fl_78_1 rfl) ?_)
                refine TL.cons rfl (V1.t (V1.load1 one_25 rfl (.own z_D (by rfl))) ?_)
                refine TL.cons rfl (V1.t (V1.neI rfl rfl (decide_eq_true (by omega))) ?_)
                refine TL.nil ?_
                refine T.cond_t rfl ?_
                refine T.seq ?_
                refine T.drawU mixed ?_
                refine TU.take 0 rfl z_F z_F z_F rfl (fun _ _ _ h => h) (fun _ => V1.build0 pl_39 zr_39) ?_
                refine TU.take 1 rfl z_F z_F z_F rfl (fun _ _ _ h => h) (fun _ => V1.move' z_B) ?_
                refine TU.take 2 rfl z_F z_F z_F rfl (fun _ _ _ h => h) (fun _ => V1.nilCheck rfl) ?_
                refine TU.take 3 rfl z_F z_F z_F rfl (fun _ _ _ h => h) (fun _ => V1.fieldAddr fl_78_1 rfl) ?_
                refine TU.two 4 5 z_F rfl rfl rfl rfl (V1.t (V1.load1 one_25 rfl (.own z_D (by rfl))) ?_) (T1.storeN rfl rfl sz_39 (ones rfl) z_H (by rfl) (by rfl) ?_)
                ·
                  refine TU.one 5 z_F rfl rfl (T1.storeN rfl rfl sz_39 (ones rfl) z_H (by rfl) (by rfl) ?_)
                  refine TU.take 6 rfl z_F z_F z_F rfl (fun _ _ _ h => h) (fun _ => V1.assign' z_B) ?_
                  refine TU.done z_F ?_
                  refine T.ret ?_
                  rw [List.length_drop] at h22_11
                  exact ⟨_, [], _, .cons (.cellN rfl one_39 sz_39 (RdN.whole z_D) (by rfl)) (.cons (.tmp z_B) .nil), z_A, decR_err (by rw [decF_bare rfl hshp, if_neg (by omega), if_pos (by omega)])⟩
                ·
                  refine TU.one 4 z_F rfl rfl (V1.t (V1.load1 one_25 rfl (.own z_D (by rfl))) ?_)
                  refine TU.take 6 rfl z_F z_F z_F rfl (fun _ _ _ h => h) (fun _ => V1.assign' z_B) ?_
                  refine TU.done z_F ?_
                  refine T.ret ?_
                  rw [List.length_drop] at h22_11
                  exact ⟨_, [], _, .cons (.cellN rfl one_39 sz_39 (RdN.whole z_D) (by rfl)) (.cons (.tmp z_B) .nil), z_A, decR_err (by rw [decF_bare rfl hshp, if_neg (by omega), if_pos (by omega)])⟩
              ·
                refine TL.cons rfl (V1.t (V1.pick rfl z_B) ?_)
                refine TL.nil ?_
                refine T.cond_f rfl ?_
                refine T.skip ?_
                refine T.seq ?_
                refine T.seq ?_
                refine T.live (l := [(2, _), (4, _), (5, _)]) (.cons z_B (.cons z_B (.cons z_B .nil))) (fun e_ => ?_)
                refine T.region ?_
                refine TL.cons rfl (V1.t (V1.move' z_B) ?_)
                refine TL.cons rfl (V1.t (V1.nilCheck rfl) ?_)
                refine TL.cons rfl (V1.t (V1.fieldAddr fl_78_1 rfl) ?_)
                refine TL.cons rfl (V1.t (V1.load1 one_25 rfl (.own z_D (by rfl))) ?_)
                refine TL.cons rfl (V1.t (V1.neI rfl rfl (decide_eq_false (by omega))) ?_)
                refine TL.nil ?_
                refine T.cond_f rfl ?_
                refine T.skip ?_
                refine T.seq ?_
                refine T.region ?_
                refine TL.cons rfl (V1.t (V1.loadN one_39 sz_39 rfl (RdN.whole z_D) (by rfl)) ?_)
                refine TL.cons rfl (T1.storeN rfl rfl sz_39 (by intro u hu; simp only [List.mem_cons, List.not_mem_nil, or_false] at hu; rcases hu with rfl | rfl | rfl | rfl | rfl; rfl; exact hs0.one; exact hs1.one; exact hs2.one; exact rfl) z_H (by rfl) (by rfl) ?_)
                refine TL.cons rfl (V1.t (V1.assign' z_B) ?_)
                refine TL.nil ?_
                refine T.ret ?_
                rw [List.length_drop] at h22_11
                obtain ⟨f2, f1⟩ := hd2 rfl
                obtain ⟨f3, f4⟩ := hd1 f1
                have f5 := hd0 f4
                exact ⟨_, Lk ++ (Ln ++ (Lx ++ [])), _, .cons (.cellN rfl one_39 sz_39 (RdN.whole z_D) (by rfl)) (.cons (.tmp z_B) .nil), z_A, decR_ok (by rw [decF_bare rfl hshp, if_neg (by omega), if_neg (by omega), ← f5, ← f3, ← f2]) hs0 hs1 hs2 Sl.nil⟩
            ·
              refine TL.cons rfl (V1.t (V1.load1 one_4 rfl (.own z_D (by rfl))) ?_)
              refine TL.nil ?_
              refine T.cond_f rfl ?_
              refine T.skip ?_
              refine T.seq ?_
              refine T.seq ?_
              refine T.region ?_
              refine TL.cons rfl (V1.t (V1.move' z_B) ?_)
              refine TL.cons rfl (V1.t (V1.nilCheck rfl) ?_)
              refine TL.cons rfl (V1.t (V1.fieldAddr fl_78_1 rfl) ?_)
              refine TL.cons rfl (V1.t (V1.load1 one_25 rfl (.own z_D (by rfl))) ?_)
              refine TL.cons rfl (V1.t (V1.eqI rfl rfl (decide_eq_false (by omega))) ?_)
              refine TL.cons rfl (V1.t (V1.move' z_B) ?_)
              refine TL.no rfl ?_
              refine TL.no rfl ?_
              refine TL.no rfl ?_
              refine TL.no rfl ?_
              refine TL.no rfl ?_
              refine TL.no rfl ?_
              refine TL.cons rfl (V1.t (V1.pick rfl z_B) ?_)
              refine TL.nil ?_
              refine T.cond_f rfl ?_
              refine T.skip ?_
              refine T.seq ?_
              refine T.seq ?_
              refine T.live (l := [(2, _), (4, _), (5, _)]) (.cons z_B (.cons z_B (.cons z_B .nil))) (fun e_ => ?_)
              refine T.region ?_
              refine TL.cons rfl (V1.t (V1.move' z_B) ?_)
              refine TL.cons rfl (V1.t (V1.nilCheck rfl) ?_)
              refine TL.cons rfl (V1.t (V1.fieldAddr fl_78_1 rfl) ?_)
              refine TL.cons rfl (V1.t (V1.load1 one_25 rfl (.own z_D (by rfl))) ?_)
              refine TL.cons rfl (V1.t (V1.neI rfl rfl (decide_eq_true (by omega))) ?_)
              refine TL.nil ?_
              refine T.cond_t rfl ?_
              refine T.seq ?_
              refine T.drawU mixed ?_
              refine TU.take 0 rfl z_F z_F z_F rfl (fun _ _ _ h => h) (fun _ => V1.build0 pl_39 zr_39) ?_
              refine TU.take 1 rfl z_F z_F z_F rfl (fun _ _ _ h => h) (fun _ => V1.move' z_B) ?_
              refine TU.take 2 rfl z_F z_F z_F rfl (fun _ _ _ h => h) (fun _ => V1.nilCheck rfl) ?_
              refine TU.take 3 rfl z_F z_F z_F rfl (fun _ _ _ h => h) (fun _ => V1.fieldAddr fl_78_1 rfl) ?_
              refine TU.two 4 5 z_F rfl rfl rfl rfl (V1.t (V1.load1 one_25 rfl (.own z_D (by rfl))) ?_) (T1.storeN rfl rfl sz_39 (ones rfl) z_H (by rfl) (by rfl) ?_)
              ·
                refine TU.one 5 z_F rfl rfl (T1.storeN rfl rfl sz_39 (ones rfl) z_H (by rfl) (by rfl) ?_)
                refine TU.take 6 rfl z_F z_F z_F rfl (fun _ _ _ h => h) (fun _ => V1.assign' z_B) ?_
                refine TU.done z_F ?_
                refine T.ret ?_
                exact ⟨_, [], _, .cons (.cellN rfl one_39 sz_39 (RdN.whole z_D) (by rfl)) (.cons (.tmp z_B) .nil), z_A, decR_err (by rw [decF_bare rfl hshp, if_pos (by omega)])⟩
              ·
                refine TU.one 4 z_F rfl rfl (V1.t (V1.load1 one_25 rfl (.own z_D (by rfl))) ?_)
                refine TU.take 6 rfl z_F z_F z_F rfl (fun _ _ _ h => h) (fun _ => V1.assign' z_B) ?_
                refine TU.done z_F ?_
                refine T.ret ?_
                exact ⟨_, [], _, .cons (.cellN rfl one_39 sz_39 (RdN.whole z_D) (by rfl)) (.cons (.tmp z_B) .nil), z_A, decR_err (by rw [decF_bare rfl hshp, if_pos (by omega)])⟩
    ·
      refine TL.cons rfl (V1.t (V1.move' z_B) ?_)
      refine TL.cons rfl (V1.t (V1.extract rfl (by rfl)) ?_)
      refine TL.cons rfl (V1.t (V1.extract rfl (by rfl)) ?_)
      refine TL.cons rfl (T1.allocN 4 zr_81 rfl (fun b6 => ?_))
      refine TL.cons rfl (T1.storeN rfl rfl sz_81 (ones rfl) z_H (by rfl) (by rfl) ?_)
      refine TL.cons rfl (V1.t (V1.assign' z_B) ?_)
      refine TL.nil ?_
      refine T.seq ?_
      refine T.seq ?_
      refine T.region ?_
      refine TL.cons rfl (V1.t (V1.move' z_B) ?_)
      refine TL.cons rfl (V1.t (V1.neI rfl rfl (decide_eq_true (by omega))) ?_)
      refine TL.nil ?_
      refine T.cond_t rfl ?_
      refine T.seq ?_
      refine T.region ?_
      refine TL.cons rfl (V1.t (V1.build0 pl_39 zr_39) ?_)
      refine TL.cons rfl (V1.t (V1.move' z_B) ?_)
      refine TL.cons rfl (T1.storeN rfl rfl sz_39 (ones rfl) z_H (by rfl) (by rfl) ?_)
      refine TL.cons rfl (V1.t (V1.assign' z_B) ?_)
      refine TL.nil ?_
      refine T.ret ?_
      exact ⟨_, [], _, .cons (.cellN rfl one_39 sz_39 (RdN.whole z_D) (by rfl)) (.cons (.tmp z_B) .nil), z_A, decR_err (decF_none hshp)⟩
  ·
    obtain rfl : l = [] := by (cases l with | nil => rfl | cons c0 tl => simp at hk1)
    obtain rfl : bad9 = 111 := by simpa using hbd
    have u0 := u8_lt c1
    refine TL.cons rfl (V1.t (V1.indexAddrS ty_29 sz_5 rfl rfl (by decide) (by omega)) ?_)
    refine TL.cons rfl (V1.t (V1.load1 one_5 rfl (hrd _ 0 _ rfl)) ?_)
    refine TL.cons rfl (V1.t (V1.conv ty_5 ty_3 rfl (wrap_i64 _ (by omega) (by omega))) ?_)
    refine TL.cons rfl (V1.t (V1.buildF pl_39 zr_39 (.one rfl z_B rfl .nil) z_I) ?_)
    refine TL.cons rfl (T1.allocN 5 zr_39 rfl (fun b5 => ?_))
    refine TL.cons rfl (T1.storeN rfl rfl sz_39 (ones rfl) z_H (by rfl) (by rfl) ?_)
    refine TL.nil ?_
    refine T.seq ?_
    refine T.seq ?_
    refine T.region ?_
    refine TL.cons rfl (V1.t (V1.move' z_B) ?_)
    refine TL.cons rfl (V1.t (V1.nilCheck rfl) ?_)
    refine TL.cons rfl (V1.t (V1.fieldAddr fl_78_1 rfl) ?_)
    refine TL.cons rfl (V1.t (V1.load1 one_25 rfl (.own z_D (by rfl))) ?_)
    refine TL.cons rfl (V1.t (V1.neI rfl rfl (decide_eq_true (by omega))) ?_)
    refine TL.nil ?_
    refine T.cond_t rfl ?_
    refine T.seq ?_
    refine T.live (l := [(2, _), (4, _)]) (.cons z_B (.cons z_B .nil)) (fun e_ => ?_)
    refine T.drawU mixed ?_
    refine TU.take 0 rfl z_F z_F z_F rfl (fun _ _ _ h => h) (fun _ => V1.build0 pl_39 zr_39) ?_
    refine TU.take 1 rfl z_F z_F z_F rfl (fun _ _ _ h => h) (fun _ => V1.move' z_B) ?_
    refine TU.take 2 rfl z_F z_F z_F rfl (fun _ _ _ h => h) (fun _ => V1.nilCheck rfl) ?_
    refine TU.take 3 rfl z_F z_F z_F rfl (fun _ _ _ h => h) (fun _ => V1.fieldAddr fl_78_1 rfl) ?_
    refine TU.two 4 5 z_F rfl rfl rfl rfl (V1.t (V1.load1 one_25 rfl (.own z_D (by rfl))) ?_) (T1.storeN rfl rfl sz_39 (ones rfl) z_H (by rfl) (by rfl) ?_)
    ·
      refine TU.one 5 z_F rfl rfl (T1.storeN rfl rfl sz_39 (ones rfl) z_H (by rfl) (by rfl) ?_)
      refine TU.take 6 rfl z_F z_F z_F rfl (fun _ _ _ h => h) (fun _ => V1.assign' z_B) ?_
      refine TU.done z_F ?_
      refine T.ret ?_
      exact ⟨_, [], _, .cons (.cellN rfl one_39 sz_39 (RdN.whole z_D) (by rfl)) (.cons (.tmp z_B) .nil), z_A, decR_err (rfl)⟩
    ·
      refine TU.one 4 z_F rfl rfl (V1.t (V1.load1 one_25 rfl (.own z_D (by rfl))) ?_)
      refine TU.take 6 rfl z_F z_F z_F rfl (fun _ _ _ h => h) (fun _ => V1.assign' z_B) ?_
      refine TU.done z_F ?_
      refine T.ret ?_
      exact ⟨_, [], _, .cons (.cellN rfl one_39 sz_39 (RdN.whole z_D) (by rfl)) (.cons (.tmp z_B) .nil), z_A, decR_err (rfl)⟩

end Go.Proofs.Ytijijaobialncaa.S
