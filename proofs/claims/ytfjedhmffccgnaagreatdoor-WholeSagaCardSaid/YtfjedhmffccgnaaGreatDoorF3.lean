/- Products and sums of several numbers, one number less another. -/
import Derived.Test.YtfjedhmffccgnaaGreatDoorF2
namespace Go.Proofs.YtfjedhmffccgnaaGreatDoor.S
set_option maxRecDepth 100000
set_option maxHeartbeats 1000000
open Go.RowKit
open Ed
noncomputable def lock {α : Type} (a : α) : α := Classical.choose (⟨a, rfl⟩ : ∃ u, u = a)
theorem lock_eq {α : Type} (a : α) : lock a = a := Classical.choose_spec (⟨a, rfl⟩ : ∃ u, u = a)
noncomputable def mulF (x y : L5) : L5 := lock (x.mulRaw y).carried
def oneF : L5 := ⟨(1#32).setWidth 64, 0, 0, 0, 0⟩
def zeroF : L5 := ⟨0, 0, 0, 0, 0⟩
noncomputable def prodF (l : List L5) : L5 := l.foldl mulF oneF
noncomputable def subF (x y : L5) : L5 := lock (x.sub y).carried
def sumF (l : List L5) : L5 := l.foldl L5.add zeroF
noncomputable def addF (l : List L5) : L5 := lock (sumF l).carried
theorem Mul_any (x y : L5) (w : World) : Fn P 49 [feV x, feV y] w [] (fun v Y => Y = [] ∧ v = feV (mulF x y)) := by
 unfold mulF; rw [lock_eq]; exact Mul_exact x y w
attribute [irreducible] lock mulF
theorem prod_take {l : List L5} {i : Nat} {x : L5} (h : l[i]? = some x) : prodF (l.take (i + 1)) = mulF (prodF (l.take i)) x := by
 unfold prodF; rw [List.take_add_one, h, List.foldl_append]; rfl
theorem sum_take {l : List L5} {i : Nat} {x : L5} (h : l[i]? = some x) : sumF (l.take (i + 1)) = (sumF (l.take i)).add x := by
 unfold sumF; rw [List.take_add_one, h, List.foldl_append]; rfl
theorem fe_flat : ∀ (l : List L5) (i : Nat) (x : L5) (j : Nat) (v : Value), l[i]? = some x → (feC x)[j]? = some v → (l.flatMap feC)[i * 5 + j]? = some v
 | [], i, x, j, v, h, _ => by simp at h
 | y :: l, 0, x, j, v, h, hv => by
  simp only [List.getElem?_cons_zero, Option.some.injEq] at h
  subst h
  rw [List.flatMap_cons, Nat.zero_mul, Nat.zero_add, List.getElem?_append_left (List.getElem?_eq_some_iff.1 hv).1]; exact hv
 | y :: l, i + 1, x, j, v, h, hv => by
  rw [List.flatMap_cons, List.getElem?_append_right (by show 5 ≤ _; omega), show (i + 1) * 5 + j - (feC y).length = i * 5 + j from by show (i + 1) * 5 + j - 5 = _; omega]
  exact fe_flat l i x j v (by simpa using h) hv
theorem fe_at {w0 : World} {Ps : List Blk} {a : Option Addr} {c : Nat} {l : List L5} {i : Nat} {x : L5} (h : RowR w0 Ps 5 (.slice a l.length c) l.length (l.flatMap feC)) (hx : l[i]? = some x) (P : Program) :
 ∃ b o, a = some ⟨b, o, none⟩ ∧ ∀ C : Ctx, C.w0 = w0 → C.M = [] → ∀ L, Inc Ps L → RdN C L ⟨b, o + i * 5, none⟩ (feC x) := by
 have hl := (List.getElem?_eq_some_iff.1 hx).1
 obtain ⟨b, o, e, hr⟩ := h.at zw P
 refine ⟨b, o, e, fun C h0 hm L hL j v hv => ?_⟩
 have := hr C h0 hm L hL (i * 5 + j) v (fe_flat l i x j v hx hv)
 rw [← Nat.add_assoc] at this
 exact this
theorem Product_any (w0 : World) (Ps : List Blk) {v : Value} (l : List L5) (h : RowR w0 Ps 5 v l.length (l.flatMap feC)) (hl : l.length ≤ 60) : FnV P 95 [v] w0 Ps (fun v => v = feV (prodF l)) := by
 obtain ⟨a, c, rfl⟩ := h.form
 refine FnV.of 18 [.cell 2 82] Go.Proofs.Tryz.func95 rfl rfl rfl rfl (fun G hG => ?_)
 refine zs ?_
 refine zc (T1.allocN 5 zr_82 rfl (fun b2 => zs ?_))
 refine zc (T1.call0 has_48 rfl (fun w hs => Small_any 1#32 w) (fun v hv => ?_))
 subst hv
 refine zc (T1.allocN 5 zr_82 rfl (fun b3 => ?_))
 refine zc (T1.storeN rfl rfl sz_82 (ones rfl) z_H zr zr ?_)
 refine zs ?_
 refine zq1 (V1.lenSl ty_187 rfl) ?_
 refine T.block (T.loopL (σ := Nat) (l0 := [(2, _), (3, _), (7, _), (8, _)]) (fun x => [(9, .int .i64 (x : Nat))]) (fun x L => L = ⟨b3, 0, feC (prodF (l.take x)), 5⟩ :: ⟨b2, 0, feC zeroF, 5⟩ :: G ∧ x ≤ l.length) (fun x => l.length - x) 0 (.cons rfl .nil) zT z_B (⟨rfl, Nat.zero_le _⟩) ?_)
 rintro i e_ L ⟨rfl, hi⟩
 refine zs ?_
 refine zc (T1.ltI_split rfl rfl (fun h3 => ?_) (fun h3 => ?_))
 ·
  obtain ⟨x, hx⟩ : ∃ x, l[i]? = some x := ⟨_, List.getElem?_eq_getElem zw⟩
  obtain ⟨bl, ol, rfl, hrd⟩ := fe_at h hx P
  have hp := prod_take hx
  refine zs ?_
  refine T.cond_t rfl (zs ?_)
  refine z0 (V1.indexAddrS ty_187 sz_82 rfl rfl zw zw) ?_
  refine z0 (V1.loadN (vs := feC x) one_82 sz_82 rfl (hrd _ rfl rfl _ z_D) rfl) ?_
  refine zc (T1.allocN 5 zr_82 rfl (fun b5 => ?_))
  refine zc (T1.storeN rfl rfl sz_82 (ones rfl) z_H zr zr ?_)
  refine zs ?_
  refine z0 (V1.loadN one_82 sz_82 rfl (RdN.whole z_A) zr) ?_
  refine z0 (V1.loadN one_82 sz_82 rfl (RdN.whole z_A) zr) ?_
  refine zc (T1.call0 has_49 rfl (fun w hs => Mul_any (prodF (l.take i)) x w) (fun v hv => ?_))
  subst hv
  refine zc (T1.storeN rfl rfl sz_82 (ones rfl) z_H zr zr ?_)
  refine zs ?_
  refine zq1 (V1.add rfl rfl (wrap_i64 _ zw zw)) ?_
  exact ⟨i + 1, ⟨b3, 0, feC (mulF (prodF (l.take i)) x), 5⟩ :: ⟨b2, 0, feC zeroF, 5⟩ :: G, _, z_N, (.cons rfl .nil), (.cons rfl (.cons rfl (.cons rfl (.cons rfl .nil)))), z_B, ⟨by rw [hp], by omega⟩⟩
 ·
  obtain rfl : i = l.length := by omega
  rw [List.take_length]
  refine zs ?_
  refine T.cond_f rfl (zs ?_)
  refine z0 (V1.loadN one_82 sz_82 rfl (RdN.whole z_A) zr) ?_
  refine zc (T1.storeN rfl rfl sz_82 (ones rfl) z_H zr zr ?_)
  refine zs ?_
  exact ⟨_, G, _, .cons (.cellN z_C one_82 sz_82 (RdN.whole z_A) (by kernel_rfl)) .nil, z_B, rfl, rfl⟩
theorem Add_any (w0 : World) (Ps : List Blk) {v : Value} (l : List L5) (h : RowR w0 Ps 5 v l.length (l.flatMap feC)) (hl : l.length ≤ 60) : FnV P 96 [v] w0 Ps (fun v => v = feV (addF l)) := by
 obtain ⟨a, c, rfl⟩ := h.form
 unfold addF; rw [lock_eq]
 refine FnV.of 37 [.cell 2 82] Go.Proofs.Tryz.func96 rfl rfl rfl rfl (fun G hG => ?_)
 refine zs ?_
 refine zc (T1.allocN 5 zr_82 rfl (fun b2 => zs ?_))
 refine zc (T1.allocN 5 zr_82 rfl (fun b3 => zs ?_))
 refine zq1 (V1.lenSl ty_187 rfl) ?_
 refine T.block (T.loopL (σ := Nat) (l0 := [(2, _), (3, _), (7, _), (8, _)]) (fun x => [(9, .int .i64 (x : Nat))]) (fun x L => L = ⟨b3, 0, feC (sumF (l.take x)), 5⟩ :: ⟨b2, 0, feC zeroF, 5⟩ :: G ∧ x ≤ l.length) (fun x => l.length - x) 0 (.cons rfl .nil) zT z_B (⟨rfl, Nat.zero_le _⟩) ?_)
 rintro i e_ L ⟨rfl, hi⟩
 refine zs ?_
 refine zc (T1.ltI_split rfl rfl (fun h3 => ?_) (fun h3 => ?_))
 ·
  obtain ⟨x, hx⟩ : ∃ x, l[i]? = some x := ⟨_, List.getElem?_eq_getElem zw⟩
  obtain ⟨bl, ol, rfl, hrd⟩ := fe_at h hx P
  have hp := sum_take hx
  refine zs ?_
  refine T.cond_t rfl (zs ?_)
  refine z0 (V1.indexAddrS ty_187 sz_82 rfl rfl zw zw) ?_
  refine z0 (V1.loadN (vs := feC x) one_82 sz_82 rfl (hrd _ rfl rfl _ z_D) rfl) ?_
  refine zc (T1.allocN 5 zr_82 rfl (fun b5 => zs ?_))
  refine zc (T1.storeN rfl rfl sz_82 (ones rfl) z_H zr zr ?_)
  refine TL.nil ?_
  refine T.seq (T.seq (T.region (z1 ?_)))
  refine T.block (T.rounds 6 (TR.step ?_))
  refine zs ?_
  refine z0 (V1.ltI rfl rfl (decide_eq_true zw)) ?_
  ·
   refine zs ?_
   refine T.cond_t rfl (T.skip (T.seq (T.block (T.seq (T.region (z1 ?_))))))
   refine T.drawTail 11 mixed z_F zr z_F rfl ?_
   refine zd 0 (zO 6 zZ) (V1.move' z_C) ?_
   refine zd 1 (zO 3 zZ) (V1.fieldAddr fl_82_0 rfl) ?_
   refine zd 2 (zN 17 0 rfl (zN 18 1 rfl zZ)) (V1.indexAddrA ty_80 sz_79 rfl rfl zw zw) ?_
   refine Det.cons 3 (zN 19 2 rfl zZ) (fun e_ => .inl ⟨rfl, V1.t (V1.load1 one_79 rfl (.own z_A zr)) ⟨rfl, rfl⟩⟩) ?_
   refine zd 4 (zO 6 zZ) (V1.move' z_C) ?_
   refine zd 5 (zO 5 zZ) (V1.fieldAddr fl_82_0 rfl) ?_
   refine zd 6 (zN 21 4 rfl (zN 22 5 rfl zZ)) (V1.indexAddrA ty_80 sz_79 rfl rfl zw zw) ?_
   refine Det.cons 7 (zN 23 6 rfl zZ) (fun e_ => .inl ⟨rfl, V1.t (V1.load1 one_79 rfl (.own z_A zr)) ⟨rfl, rfl⟩⟩) ?_
   refine zd 8 (zN 20 3 rfl (zN 24 7 rfl zZ)) (V1.addW u64U rfl rfl) ?_
   refine zd 9 (zO 3 zZ) (V1.fieldAddr fl_82_0 rfl) ?_
   refine zd 10 (zN 17 0 rfl (zN 26 9 rfl zZ)) (V1.indexAddrA ty_80 sz_79 rfl rfl zw zw) ?_
   refine Det.nil 11 (zQ 2 (zQ 3 (zQ 4 (zQ 5 (zQ 7 (zQ 8 (zQ 9 (zQ 14 (zR 25 8 rfl (zR 27 10 rfl zW)))))))))) (fun e_ => ?_)
   refine (show TU _ _ _ 1 _ _ _ from ?_)
   refine TU.one 11 z_F rfl rfl (T1.store1 rfl rfl sz_79 rfl z_H (Nat.zero_le _) z_K ?_)
   refine TU.done z_F ?_
   refine T.region (zq1 (V1.add (c := 1) rfl rfl ze) ?_)
   refine TR.step ?_
   refine zs ?_
   refine z0 (V1.ltI rfl rfl (decide_eq_true zw)) ?_
   ·
    refine zs ?_
    refine T.cond_t rfl (T.skip (T.seq (T.block (T.seq (T.region (z1 ?_))))))
    refine T.drawTail 11 mixed z_F zr z_F rfl ?_
    refine zd 0 (zO 6 zZ) (V1.move' z_C) ?_
    refine zd 1 (zO 3 zZ) (V1.fieldAddr fl_82_0 rfl) ?_
    refine zd 2 (zN 17 0 rfl (zN 18 1 rfl zZ)) (V1.indexAddrA ty_80 sz_79 rfl rfl zw zw) ?_
    refine Det.cons 3 (zN 19 2 rfl zZ) (fun e_ => .inl ⟨rfl, V1.t (V1.load1 one_79 rfl (.own z_A zr)) ⟨rfl, rfl⟩⟩) ?_
    refine zd 4 (zO 6 zZ) (V1.move' z_C) ?_
    refine zd 5 (zO 5 zZ) (V1.fieldAddr fl_82_0 rfl) ?_
    refine zd 6 (zN 21 4 rfl (zN 22 5 rfl zZ)) (V1.indexAddrA ty_80 sz_79 rfl rfl zw zw) ?_
    refine Det.cons 7 (zN 23 6 rfl zZ) (fun e_ => .inl ⟨rfl, V1.t (V1.load1 one_79 rfl (.own z_A zr)) ⟨rfl, rfl⟩⟩) ?_
    refine zd 8 (zN 20 3 rfl (zN 24 7 rfl zZ)) (V1.addW u64U rfl rfl) ?_
    refine zd 9 (zO 3 zZ) (V1.fieldAddr fl_82_0 rfl) ?_
    refine zd 10 (zN 17 0 rfl (zN 26 9 rfl zZ)) (V1.indexAddrA ty_80 sz_79 rfl rfl zw zw) ?_
    refine Det.nil 11 (zQ 2 (zQ 3 (zQ 4 (zQ 5 (zQ 7 (zQ 8 (zQ 9 (zQ 14 (zR 25 8 rfl (zR 27 10 rfl zW)))))))))) (fun e_ => ?_)
    refine (show TU _ _ _ 1 _ _ _ from ?_)
    refine TU.one 11 z_F rfl rfl (T1.store1 rfl rfl sz_79 rfl z_H (Nat.zero_le _) z_K ?_)
    refine TU.done z_F ?_
    refine T.region (zq1 (V1.add (c := 2) rfl rfl ze) ?_)
    refine TR.step ?_
    refine zs ?_
    refine z0 (V1.ltI rfl rfl (decide_eq_true zw)) ?_
    ·
     refine zs ?_
     refine T.cond_t rfl (T.skip (T.seq (T.block (T.seq (T.region (z1 ?_))))))
     refine T.drawTail 11 mixed z_F zr z_F rfl ?_
     refine zd 0 (zO 6 zZ) (V1.move' z_C) ?_
     refine zd 1 (zO 3 zZ) (V1.fieldAddr fl_82_0 rfl) ?_
     refine zd 2 (zN 17 0 rfl (zN 18 1 rfl zZ)) (V1.indexAddrA ty_80 sz_79 rfl rfl zw zw) ?_
     refine Det.cons 3 (zN 19 2 rfl zZ) (fun e_ => .inl ⟨rfl, V1.t (V1.load1 one_79 rfl (.own z_A zr)) ⟨rfl, rfl⟩⟩) ?_
     refine zd 4 (zO 6 zZ) (V1.move' z_C) ?_
     refine zd 5 (zO 5 zZ) (V1.fieldAddr fl_82_0 rfl) ?_
     refine zd 6 (zN 21 4 rfl (zN 22 5 rfl zZ)) (V1.indexAddrA ty_80 sz_79 rfl rfl zw zw) ?_
     refine Det.cons 7 (zN 23 6 rfl zZ) (fun e_ => .inl ⟨rfl, V1.t (V1.load1 one_79 rfl (.own z_A zr)) ⟨rfl, rfl⟩⟩) ?_
     refine zd 8 (zN 20 3 rfl (zN 24 7 rfl zZ)) (V1.addW u64U rfl rfl) ?_
     refine zd 9 (zO 3 zZ) (V1.fieldAddr fl_82_0 rfl) ?_
     refine zd 10 (zN 17 0 rfl (zN 26 9 rfl zZ)) (V1.indexAddrA ty_80 sz_79 rfl rfl zw zw) ?_
     refine Det.nil 11 (zQ 2 (zQ 3 (zQ 4 (zQ 5 (zQ 7 (zQ 8 (zQ 9 (zQ 14 (zR 25 8 rfl (zR 27 10 rfl zW)))))))))) (fun e_ => ?_)
     refine (show TU _ _ _ 1 _ _ _ from ?_)
     refine TU.one 11 z_F rfl rfl (T1.store1 rfl rfl sz_79 rfl z_H (Nat.zero_le _) z_K ?_)
     refine TU.done z_F ?_
     refine T.region (zq1 (V1.add (c := 3) rfl rfl ze) ?_)
     refine TR.step ?_
     refine zs ?_
     refine z0 (V1.ltI rfl rfl (decide_eq_true zw)) ?_
     ·
      refine zs ?_
      refine T.cond_t rfl (T.skip (T.seq (T.block (T.seq (T.region (z1 ?_))))))
      refine T.drawTail 11 mixed z_F zr z_F rfl ?_
      refine zd 0 (zO 6 zZ) (V1.move' z_C) ?_
      refine zd 1 (zO 3 zZ) (V1.fieldAddr fl_82_0 rfl) ?_
      refine zd 2 (zN 17 0 rfl (zN 18 1 rfl zZ)) (V1.indexAddrA ty_80 sz_79 rfl rfl zw zw) ?_
      refine Det.cons 3 (zN 19 2 rfl zZ) (fun e_ => .inl ⟨rfl, V1.t (V1.load1 one_79 rfl (.own z_A zr)) ⟨rfl, rfl⟩⟩) ?_
      refine zd 4 (zO 6 zZ) (V1.move' z_C) ?_
      refine zd 5 (zO 5 zZ) (V1.fieldAddr fl_82_0 rfl) ?_
      refine zd 6 (zN 21 4 rfl (zN 22 5 rfl zZ)) (V1.indexAddrA ty_80 sz_79 rfl rfl zw zw) ?_
      refine Det.cons 7 (zN 23 6 rfl zZ) (fun e_ => .inl ⟨rfl, V1.t (V1.load1 one_79 rfl (.own z_A zr)) ⟨rfl, rfl⟩⟩) ?_
      refine zd 8 (zN 20 3 rfl (zN 24 7 rfl zZ)) (V1.addW u64U rfl rfl) ?_
      refine zd 9 (zO 3 zZ) (V1.fieldAddr fl_82_0 rfl) ?_
      refine zd 10 (zN 17 0 rfl (zN 26 9 rfl zZ)) (V1.indexAddrA ty_80 sz_79 rfl rfl zw zw) ?_
      refine Det.nil 11 (zQ 2 (zQ 3 (zQ 4 (zQ 5 (zQ 7 (zQ 8 (zQ 9 (zQ 14 (zR 25 8 rfl (zR 27 10 rfl zW)))))))))) (fun e_ => ?_)
      refine (show TU _ _ _ 1 _ _ _ from ?_)
      refine TU.one 11 z_F rfl rfl (T1.store1 rfl rfl sz_79 rfl z_H (Nat.zero_le _) z_K ?_)
      refine TU.done z_F ?_
      refine T.region (zq1 (V1.add (c := 4) rfl rfl ze) ?_)
      refine TR.step ?_
      refine zs ?_
      refine z0 (V1.ltI rfl rfl (decide_eq_true zw)) ?_
      ·
       refine zs ?_
       refine T.cond_t rfl (T.skip (T.seq (T.block (T.seq (T.region (z1 ?_))))))
       refine T.drawTail 11 mixed z_F zr z_F rfl ?_
       refine zd 0 (zO 6 zZ) (V1.move' z_C) ?_
       refine zd 1 (zO 3 zZ) (V1.fieldAddr fl_82_0 rfl) ?_
       refine zd 2 (zN 17 0 rfl (zN 18 1 rfl zZ)) (V1.indexAddrA ty_80 sz_79 rfl rfl zw zw) ?_
       refine Det.cons 3 (zN 19 2 rfl zZ) (fun e_ => .inl ⟨rfl, V1.t (V1.load1 one_79 rfl (.own z_A zr)) ⟨rfl, rfl⟩⟩) ?_
       refine zd 4 (zO 6 zZ) (V1.move' z_C) ?_
       refine zd 5 (zO 5 zZ) (V1.fieldAddr fl_82_0 rfl) ?_
       refine zd 6 (zN 21 4 rfl (zN 22 5 rfl zZ)) (V1.indexAddrA ty_80 sz_79 rfl rfl zw zw) ?_
       refine Det.cons 7 (zN 23 6 rfl zZ) (fun e_ => .inl ⟨rfl, V1.t (V1.load1 one_79 rfl (.own z_A zr)) ⟨rfl, rfl⟩⟩) ?_
       refine zd 8 (zN 20 3 rfl (zN 24 7 rfl zZ)) (V1.addW u64U rfl rfl) ?_
       refine zd 9 (zO 3 zZ) (V1.fieldAddr fl_82_0 rfl) ?_
       refine zd 10 (zN 17 0 rfl (zN 26 9 rfl zZ)) (V1.indexAddrA ty_80 sz_79 rfl rfl zw zw) ?_
       refine Det.nil 11 (zQ 2 (zQ 3 (zQ 4 (zQ 5 (zQ 7 (zQ 8 (zQ 9 (zQ 14 (zR 25 8 rfl (zR 27 10 rfl zW)))))))))) (fun e_ => ?_)
       refine (show TU _ _ _ 1 _ _ _ from ?_)
       refine TU.one 11 z_F rfl rfl (T1.store1 rfl rfl sz_79 rfl z_H (Nat.zero_le _) z_K ?_)
       refine TU.done z_F ?_
       refine T.region (zq1 (V1.add (c := 5) rfl rfl ze) ?_)
       refine TR.step ?_
       refine zs ?_
       refine z0 (V1.ltI rfl rfl (decide_eq_false zw)) ?_
       ·
        refine zs ?_
        refine T.cond_f rfl (zs ?_)
        refine z0 (V1.rem (c := ((i % 64 : Nat) : Int)) rfl rfl ze (by rw [show ((i : Int).tmod 64) = ((i % 64 : Nat) : Int) from (Int.ofNat_tmod i 64).symm])) ?_
        refine z0 (V1.eqI (r := false) rfl rfl (decide_eq_false zw)) ?_
        refine TL.nil ?_
        refine T.cond_f rfl (zs ?_)
        refine zq1 (V1.add rfl rfl (wrap_i64 _ zw zw)) ?_
        exact ⟨i + 1, ⟨b3, 0, feC ((sumF (l.take i)).add x), 5⟩ :: ⟨b2, 0, feC zeroF, 5⟩ :: G, _, z_N, (.cons rfl .nil), (.cons rfl (.cons rfl (.cons rfl (.cons rfl .nil)))), z_B, ⟨by rw [hp], by omega⟩⟩
 ·
  obtain rfl : i = l.length := by omega
  rw [List.take_length]
  refine zs ?_
  refine T.cond_f rfl (zs ?_)
  refine z0 (V1.loadN one_82 sz_82 rfl (RdN.whole z_A) zr) ?_
  refine zc (T1.call0 has_94 rfl (fun w hs => carried_any (sumF l) w) (fun v hv => ?_))
  subst hv
  refine zc (T1.storeN rfl rfl sz_82 (ones rfl) z_H zr zr ?_)
  refine zs ?_
  exact ⟨_, G, _, .cons (.cellN z_C one_82 sz_82 (RdN.whole z_A) (by kernel_rfl)) .nil, z_B, rfl, rfl⟩
def subG (C4 C72 : BitVec 64) (x y : L5) : L5 := ⟨x.a + (C4 - y.a) - C72, x.b + (C4 - y.b), x.c + (C4 - y.c), x.d + (C4 - y.d), x.e + (C4 - y.e)⟩
theorem subG_eq (x y : L5) : subG 9007199254740988#64 72#64 x y = x.sub y := by unfold subG L5.sub; with_reducible rfl
theorem Sub_gen (C4 C72 : BitVec 64) (h4 : Value.int .u64 9007199254740988 = w64 C4) (h72 : Value.int .u64 72 = w64 C72) (x y : L5) (w : World) : Fn P 97 [feV x, feV y] w [] (fun v Y => Y = [] ∧ v = feV (subG C4 C72 x y).carried) := by
 refine Fn.of 30 [.cell 4 82] Go.Proofs.Tryz.func97 rfl rfl rfl rfl ?_
 refine zs ?_
 refine zc (T1.boxN 5 rfl rfl (fun b2 => ?_))
 refine zc (T1.boxN 5 rfl rfl (fun b3 => ?_))
 refine zc (T1.allocN 5 zr_82 rfl (fun b4 => ?_))
 refine TL.nil ?_
 refine T.seq (T.seq (T.region (z1 ?_)))
 refine T.block (T.rounds 6 (TR.step ?_))
 refine zs ?_
 refine z0 (V1.ltI rfl rfl (decide_eq_true zw)) ?_
 ·
  refine zs ?_
  refine T.cond_t rfl (T.skip (T.seq (T.block (T.seq (T.region (z1 ?_))))))
  refine T.drawTail 12 mixed z_F zr z_F rfl ?_
  refine zd 0 (zO 5 zZ) (V1.move' z_C) ?_
  refine zd 1 (zO 2 zZ) (V1.fieldAddr fl_82_0 rfl) ?_
  refine zd 2 (zN 9 0 rfl (zN 10 1 rfl zZ)) (V1.indexAddrA ty_80 sz_79 rfl rfl zw zw) ?_
  refine Det.cons 3 (zN 11 2 rfl zZ) (fun e_ => .inl ⟨rfl, V1.t (V1.load1 one_79 rfl (.own z_A zr)) ⟨rfl, rfl⟩⟩) ?_
  refine zd 4 (zO 5 zZ) (V1.move' z_C) ?_
  refine zd 5 (zO 3 zZ) (V1.fieldAddr fl_82_0 rfl) ?_
  refine zd 6 (zN 13 4 rfl (zN 14 5 rfl zZ)) (V1.indexAddrA ty_80 sz_79 rfl rfl zw zw) ?_
  refine Det.cons 7 (zN 15 6 rfl zZ) (fun e_ => .inl ⟨rfl, V1.t (V1.load1 one_79 rfl (.own z_A zr)) ⟨rfl, rfl⟩⟩) ?_
  refine zd 8 (zN 16 7 rfl zZ) (V1.subW (a := C4) u64U h4 rfl) ?_
  refine zd 9 (zN 12 3 rfl (zN 17 8 rfl zZ)) (V1.addW u64U rfl rfl) ?_
  refine zd 10 (zO 2 zZ) (V1.fieldAddr fl_82_0 rfl) ?_
  refine zd 11 (zN 9 0 rfl (zN 19 10 rfl zZ)) (V1.indexAddrA ty_80 sz_79 rfl rfl zw zw) ?_
  refine Det.nil 12 (zQ 2 (zQ 3 (zQ 4 (zQ 6 (zR 18 9 rfl (zR 20 11 rfl zW)))))) (fun e_ => ?_)
  refine (show TU _ _ _ 1 _ _ _ from ?_)
  refine TU.one 12 z_F rfl rfl (T1.store1 rfl rfl sz_79 rfl z_H (Nat.zero_le _) z_K ?_)
  refine TU.done z_F ?_
  refine T.region (zq1 (V1.add (c := 1) rfl rfl ze) ?_)
  refine TR.step ?_
  refine zs ?_
  refine z0 (V1.ltI rfl rfl (decide_eq_true zw)) ?_
  ·
   refine zs ?_
   refine T.cond_t rfl (T.skip (T.seq (T.block (T.seq (T.region (z1 ?_))))))
   refine T.drawTail 12 mixed z_F zr z_F rfl ?_
   refine zd 0 (zO 5 zZ) (V1.move' z_C) ?_
   refine zd 1 (zO 2 zZ) (V1.fieldAddr fl_82_0 rfl) ?_
   refine zd 2 (zN 9 0 rfl (zN 10 1 rfl zZ)) (V1.indexAddrA ty_80 sz_79 rfl rfl zw zw) ?_
   refine Det.cons 3 (zN 11 2 rfl zZ) (fun e_ => .inl ⟨rfl, V1.t (V1.load1 one_79 rfl (.own z_A zr)) ⟨rfl, rfl⟩⟩) ?_
   refine zd 4 (zO 5 zZ) (V1.move' z_C) ?_
   refine zd 5 (zO 3 zZ) (V1.fieldAddr fl_82_0 rfl) ?_
   refine zd 6 (zN 13 4 rfl (zN 14 5 rfl zZ)) (V1.indexAddrA ty_80 sz_79 rfl rfl zw zw) ?_
   refine Det.cons 7 (zN 15 6 rfl zZ) (fun e_ => .inl ⟨rfl, V1.t (V1.load1 one_79 rfl (.own z_A zr)) ⟨rfl, rfl⟩⟩) ?_
   refine zd 8 (zN 16 7 rfl zZ) (V1.subW (a := C4) u64U h4 rfl) ?_
   refine zd 9 (zN 12 3 rfl (zN 17 8 rfl zZ)) (V1.addW u64U rfl rfl) ?_
   refine zd 10 (zO 2 zZ) (V1.fieldAddr fl_82_0 rfl) ?_
   refine zd 11 (zN 9 0 rfl (zN 19 10 rfl zZ)) (V1.indexAddrA ty_80 sz_79 rfl rfl zw zw) ?_
   refine Det.nil 12 (zQ 2 (zQ 3 (zQ 4 (zQ 6 (zR 18 9 rfl (zR 20 11 rfl zW)))))) (fun e_ => ?_)
   refine (show TU _ _ _ 1 _ _ _ from ?_)
   refine TU.one 12 z_F rfl rfl (T1.store1 rfl rfl sz_79 rfl z_H (Nat.zero_le _) z_K ?_)
   refine TU.done z_F ?_
   refine T.region (zq1 (V1.add (c := 2) rfl rfl ze) ?_)
   refine TR.step ?_
   refine zs ?_
   refine z0 (V1.ltI rfl rfl (decide_eq_true zw)) ?_
   ·
    refine zs ?_
    refine T.cond_t rfl (T.skip (T.seq (T.block (T.seq (T.region (z1 ?_))))))
    refine T.drawTail 12 mixed z_F zr z_F rfl ?_
    refine zd 0 (zO 5 zZ) (V1.move' z_C) ?_
    refine zd 1 (zO 2 zZ) (V1.fieldAddr fl_82_0 rfl) ?_
    refine zd 2 (zN 9 0 rfl (zN 10 1 rfl zZ)) (V1.indexAddrA ty_80 sz_79 rfl rfl zw zw) ?_
    refine Det.cons 3 (zN 11 2 rfl zZ) (fun e_ => .inl ⟨rfl, V1.t (V1.load1 one_79 rfl (.own z_A zr)) ⟨rfl, rfl⟩⟩) ?_
    refine zd 4 (zO 5 zZ) (V1.move' z_C) ?_
    refine zd 5 (zO 3 zZ) (V1.fieldAddr fl_82_0 rfl) ?_
    refine zd 6 (zN 13 4 rfl (zN 14 5 rfl zZ)) (V1.indexAddrA ty_80 sz_79 rfl rfl zw zw) ?_
    refine Det.cons 7 (zN 15 6 rfl zZ) (fun e_ => .inl ⟨rfl, V1.t (V1.load1 one_79 rfl (.own z_A zr)) ⟨rfl, rfl⟩⟩) ?_
    refine zd 8 (zN 16 7 rfl zZ) (V1.subW (a := C4) u64U h4 rfl) ?_
    refine zd 9 (zN 12 3 rfl (zN 17 8 rfl zZ)) (V1.addW u64U rfl rfl) ?_
    refine zd 10 (zO 2 zZ) (V1.fieldAddr fl_82_0 rfl) ?_
    refine zd 11 (zN 9 0 rfl (zN 19 10 rfl zZ)) (V1.indexAddrA ty_80 sz_79 rfl rfl zw zw) ?_
    refine Det.nil 12 (zQ 2 (zQ 3 (zQ 4 (zQ 6 (zR 18 9 rfl (zR 20 11 rfl zW)))))) (fun e_ => ?_)
    refine (show TU _ _ _ 1 _ _ _ from ?_)
    refine TU.one 12 z_F rfl rfl (T1.store1 rfl rfl sz_79 rfl z_H (Nat.zero_le _) z_K ?_)
    refine TU.done z_F ?_
    refine T.region (zq1 (V1.add (c := 3) rfl rfl ze) ?_)
    refine TR.step ?_
    refine zs ?_
    refine z0 (V1.ltI rfl rfl (decide_eq_true zw)) ?_
    ·
     refine zs ?_
     refine T.cond_t rfl (T.skip (T.seq (T.block (T.seq (T.region (z1 ?_))))))
     refine T.drawTail 12 mixed z_F zr z_F rfl ?_
     refine zd 0 (zO 5 zZ) (V1.move' z_C) ?_
     refine zd 1 (zO 2 zZ) (V1.fieldAddr fl_82_0 rfl) ?_
     refine zd 2 (zN 9 0 rfl (zN 10 1 rfl zZ)) (V1.indexAddrA ty_80 sz_79 rfl rfl zw zw) ?_
     refine Det.cons 3 (zN 11 2 rfl zZ) (fun e_ => .inl ⟨rfl, V1.t (V1.load1 one_79 rfl (.own z_A zr)) ⟨rfl, rfl⟩⟩) ?_
     refine zd 4 (zO 5 zZ) (V1.move' z_C) ?_
     refine zd 5 (zO 3 zZ) (V1.fieldAddr fl_82_0 rfl) ?_
     refine zd 6 (zN 13 4 rfl (zN 14 5 rfl zZ)) (V1.indexAddrA ty_80 sz_79 rfl rfl zw zw) ?_
     refine Det.cons 7 (zN 15 6 rfl zZ) (fun e_ => .inl ⟨rfl, V1.t (V1.load1 one_79 rfl (.own z_A zr)) ⟨rfl, rfl⟩⟩) ?_
     refine zd 8 (zN 16 7 rfl zZ) (V1.subW (a := C4) u64U h4 rfl) ?_
     refine zd 9 (zN 12 3 rfl (zN 17 8 rfl zZ)) (V1.addW u64U rfl rfl) ?_
     refine zd 10 (zO 2 zZ) (V1.fieldAddr fl_82_0 rfl) ?_
     refine zd 11 (zN 9 0 rfl (zN 19 10 rfl zZ)) (V1.indexAddrA ty_80 sz_79 rfl rfl zw zw) ?_
     refine Det.nil 12 (zQ 2 (zQ 3 (zQ 4 (zQ 6 (zR 18 9 rfl (zR 20 11 rfl zW)))))) (fun e_ => ?_)
     refine (show TU _ _ _ 1 _ _ _ from ?_)
     refine TU.one 12 z_F rfl rfl (T1.store1 rfl rfl sz_79 rfl z_H (Nat.zero_le _) z_K ?_)
     refine TU.done z_F ?_
     refine T.region (zq1 (V1.add (c := 4) rfl rfl ze) ?_)
     refine TR.step ?_
     refine zs ?_
     refine z0 (V1.ltI rfl rfl (decide_eq_true zw)) ?_
     ·
      refine zs ?_
      refine T.cond_t rfl (T.skip (T.seq (T.block (T.seq (T.region (z1 ?_))))))
      refine T.drawTail 12 mixed z_F zr z_F rfl ?_
      refine zd 0 (zO 5 zZ) (V1.move' z_C) ?_
      refine zd 1 (zO 2 zZ) (V1.fieldAddr fl_82_0 rfl) ?_
      refine zd 2 (zN 9 0 rfl (zN 10 1 rfl zZ)) (V1.indexAddrA ty_80 sz_79 rfl rfl zw zw) ?_
      refine Det.cons 3 (zN 11 2 rfl zZ) (fun e_ => .inl ⟨rfl, V1.t (V1.load1 one_79 rfl (.own z_A zr)) ⟨rfl, rfl⟩⟩) ?_
      refine zd 4 (zO 5 zZ) (V1.move' z_C) ?_
      refine zd 5 (zO 3 zZ) (V1.fieldAddr fl_82_0 rfl) ?_
      refine zd 6 (zN 13 4 rfl (zN 14 5 rfl zZ)) (V1.indexAddrA ty_80 sz_79 rfl rfl zw zw) ?_
      refine Det.cons 7 (zN 15 6 rfl zZ) (fun e_ => .inl ⟨rfl, V1.t (V1.load1 one_79 rfl (.own z_A zr)) ⟨rfl, rfl⟩⟩) ?_
      refine zd 8 (zN 16 7 rfl zZ) (V1.subW (a := C4) u64U h4 rfl) ?_
      refine zd 9 (zN 12 3 rfl (zN 17 8 rfl zZ)) (V1.addW u64U rfl rfl) ?_
      refine zd 10 (zO 2 zZ) (V1.fieldAddr fl_82_0 rfl) ?_
      refine zd 11 (zN 9 0 rfl (zN 19 10 rfl zZ)) (V1.indexAddrA ty_80 sz_79 rfl rfl zw zw) ?_
      refine Det.nil 12 (zQ 2 (zQ 3 (zQ 4 (zQ 6 (zR 18 9 rfl (zR 20 11 rfl zW)))))) (fun e_ => ?_)
      refine (show TU _ _ _ 1 _ _ _ from ?_)
      refine TU.one 12 z_F rfl rfl (T1.store1 rfl rfl sz_79 rfl z_H (Nat.zero_le _) z_K ?_)
      refine TU.done z_F ?_
      refine T.region (zq1 (V1.add (c := 5) rfl rfl ze) ?_)
      refine TR.step ?_
      refine zs ?_
      refine z0 (V1.ltI rfl rfl (decide_eq_false zw)) ?_
      ·
       refine zs ?_
       refine T.cond_f rfl (zs ?_)
       refine z0 (V1.fieldAddr fl_82_0 rfl) ?_
       refine z0 (V1.indexAddrA ty_80 sz_79 rfl rfl ze ze) ?_
       refine z0 (V1.load1 one_79 rfl (.own z_A zr)) ?_
       refine z0 (V1.subW (b := C72) u64U rfl h72) ?_
       refine z0 (V1.fieldAddr fl_82_0 rfl) ?_
       refine z0 (V1.indexAddrA ty_80 sz_79 rfl rfl ze ze) ?_
       refine zc (T1.store1 rfl rfl sz_79 rfl z_H (Nat.zero_le _) z_K ?_)
       refine zs ?_
       refine z0 (V1.loadN one_82 sz_82 rfl (RdN.whole z_A) zr) ?_
       refine zc (T1.call0 has_94 rfl (fun w hs => carried_any (subG C4 C72 x y) w) (fun v hv => ?_))
       subst hv
       refine zc (T1.storeN rfl rfl sz_82 (ones rfl) z_H zr zr ?_)
       refine zs ?_
       exact ⟨_, [], _, .cons (.cellN z_C one_82 sz_82 (RdN.whole z_A) (by kernel_rfl)) .nil, Take.nil, rfl, rfl⟩
theorem Sub_any (x y : L5) (w : World) : Fn P 97 [feV x, feV y] w [] (fun v Y => Y = [] ∧ v = feV (subF x y)) := by
 have := Sub_gen 9007199254740988#64 72#64 rfl rfl x y w
 rw [subG_eq] at this
 unfold subF; rw [lock_eq]; exact this
theorem Neg_gen (z : L5) (hz : Value.agg #[.int .u64 0, .int .u64 0, .int .u64 0, .int .u64 0, .int .u64 0] = feV z) (x : L5) (w : World) : Fn P 106 [feV x] w [] (fun v Y => Y = [] ∧ v = feV (subF z x)) := by
 refine Fn.of 6 [.cell 2 82] Go.Proofs.Tryz.func106 rfl rfl rfl rfl ?_
 refine zs ?_
 refine zc (T1.boxN 5 rfl rfl (fun b1 => ?_))
 refine zc (T1.allocN 5 zr_82 rfl (fun b2 => zs ?_))
 refine z0 (show V1 _ _ _ _ (feV z) from by rw [← hz]; exact V1.build0 (z := .agg #[.int .u64 0, .int .u64 0, .int .u64 0, .int .u64 0, .int .u64 0]) pl_82 zr_82) ?_
 refine z0 (V1.loadN one_82 sz_82 rfl (RdN.whole z_A) zr) ?_
 refine zc (T1.call0 has_97 rfl (fun w hs => Sub_any z x w) (fun v hv => ?_))
 subst hv
 refine zc (T1.storeN rfl rfl sz_82 (ones rfl) z_H zr zr ?_)
 refine zs ?_
 exact ⟨_, [], _, .cons (.cellN z_C one_82 sz_82 (RdN.whole z_A) (by kernel_rfl)) .nil, Take.nil, rfl, rfl⟩
theorem Neg_any (x : L5) (w : World) : Fn P 106 [feV x] w [] (fun v Y => Y = [] ∧ v = feV (subF zeroF x)) := Neg_gen zeroF rfl x w
attribute [irreducible] prodF subF addF
end Go.Proofs.YtfjedhmffccgnaaGreatDoor.S
namespace Go.Proofs.YtfjedhmffccgnaaGreatDoor.S
set_option maxRecDepth 100000
set_option maxHeartbeats 1000000
open Go.RowKit
open Ed
noncomputable def LbF (n : Nat) : L5 := lock (Lb n)
theorem LbF_norm (n : Nat) : (LbF n).norm := by unfold LbF; rw [lock_eq]; exact Lb_norm n
theorem LbF_fe {n : Nat} (h : n < 2 ^ 255) : (LbF n).fe = fp n := by unfold LbF; rw [lock_eq]; exact Lb_fe h
noncomputable def limbsF (n : Nat) : List (BitVec 64) := lock (limbs n)
theorem limbsF_len (n : Nat) : (limbsF n).length = 5 := by unfold limbsF; rw [lock_eq]; rfl
theorem limbsF_get {n j : Nat} (h : j < 5) : ((limbsF n).map w64)[j]? = some (w64 ((limbsF n).getD j 0)) := by
 rw [List.getElem?_map, List.getD_eq_getElem?_getD, List.getElem?_eq_getElem (by rw [limbsF_len]; exact h)]; rfl
theorem limbsF_feC (n : Nat) : (limbsF n).map w64 = feC (LbF n) := by unfold limbsF LbF; rw [lock_eq, lock_eq]; rfl
theorem limbsF_zero (n : Nat) : (limbsF (n % 2 ^ 0)).map w64 = feC zeroF := by unfold limbsF; rw [lock_eq, limbs_zero]; rfl
noncomputable def leF (n : Nat) : List UInt8 := lock (le 32 n)
theorem leF_len (n : Nat) : (leF n).length = 32 := by unfold leF; rw [lock_eq]; exact le_len _ _
theorem leF_eq (n : Nat) : leF n = le 32 n := lock_eq _
attribute [irreducible] LbF limbsF leF
theorem bytes_get {k : List UInt8} {j : Nat} (h : j < k.length) : (k.map byteV)[j]? = some (byteV (k.getD j 0)) := by
 rw [List.getElem?_map, List.getD_eq_getElem?_getD, List.getElem?_eq_getElem h]; rfl
theorem bit8 (x : BitVec 8) (s : Nat) : (x >>> s) &&& 1#8 = BitVec.ofNat 8 ((x >>> s).toNat % 2) := by
 apply BitVec.eq_of_toNat_eq
 rw [BitVec.toNat_and, BitVec.toNat_ofNat]
 have : (x >>> s).toNat &&& 1 = (x >>> s).toNat % 2 := Nat.and_one_is_mod _
 show (x >>> s).toNat &&& 1 = (x >>> s).toNat % 2 % 2 ^ 8
 rw [this]; omega
theorem bit64 (x : BitVec 64) (s : Nat) : (x >>> s) &&& 1#64 = BitVec.ofNat 64 ((x >>> s).toNat % 2) := by
 apply BitVec.eq_of_toNat_eq
 rw [BitVec.toNat_and, BitVec.toNat_ofNat]
 have : (x >>> s).toNat &&& 1 = (x >>> s).toNat % 2 := Nat.and_one_is_mod _
 show (x >>> s).toNat &&& 1 = (x >>> s).toNat % 2 % 2 ^ 64
 rw [this]; omega
theorem bit_w {n w : Nat} (h : n < 2) (hw : 1 < 2 ^ w) (v : Nat) : (BitVec.ofNat v n).setWidth w = BitVec.ofNat w n ∨ v = 0 := by
 by_cases z : v = 0
 · exact .inr z
 ·
  left
  apply BitVec.eq_of_toNat_eq
  have : 2 ^ 1 ≤ 2 ^ v := Nat.pow_le_pow_right zw zw
  rw [BitVec.toNat_setWidth, BitVec.toNat_ofNat, BitVec.toNat_ofNat, Nat.mod_eq_of_lt (show n < 2 ^ v by omega)]
theorem bit_8_64 {n : Nat} (h : n < 2) : (BitVec.ofNat 8 n).setWidth 64 = BitVec.ofNat 64 n := (bit_w h ze 8).resolve_right ze
theorem bit_64_8 {n : Nat} (h : n < 2) : (BitVec.ofNat 64 n).setWidth 8 = BitVec.ofNat 8 n := (bit_w h ze 64).resolve_right ze
theorem of_step {k : List UInt8} {i : Nat} (hk : k.length = 32) (hi : i < 255) : (limbsF (leN k % 2 ^ i)).set (i / 51) ((limbsF (leN k % 2 ^ i)).getD (i / 51) 0 ||| (((k.getD (i / 8) 0).toBitVec >>> (i % 8)) &&& 1#8).setWidth 64 <<< (i % 51)) = limbsF (leN k % 2 ^ (i + 1)) := by
 rw [bit8, byte_bit zw, bit_8_64 (Nat.mod_lt _ ze)]
 unfold limbsF; rw [lock_eq, lock_eq]; exact limbs_bit hi
theorem to_step {n i : Nat} (hi : i < 255) : (leF (n % 2 ^ i)).set (i / 8) (UInt8.ofBitVec (((leF (n % 2 ^ i)).getD (i / 8) 0).toBitVec ||| ((((limbsF n).getD (i / 51) 0) >>> (i % 51)) &&& 1#64).setWidth 8 <<< (i % 8))) = leF (n % 2 ^ (i + 1)) := by
 have e : (limbsF n).getD (i / 51) 0 = limb n (i / 51) := by unfold limbsF; rw [lock_eq]; exact limbs_getD zw
 rw [e, bit64, limb_bit, bit_64_8 (Nat.mod_lt _ ze), leF_eq, leF_eq]
 exact le_bit zw
theorem ones_step {i : Nat} (hi : i < 256) : (leF (2 ^ i - 1)).set (i / 8) (UInt8.ofBitVec (((leF (2 ^ i - 1)).getD (i / 8) 0).toBitVec ||| 1#8 <<< (i % 8))) = leF (2 ^ (i + 1) - 1) := by
 have b := le_bit (n := 2 ^ (i + 1) - 1) hi
 have h0 : 0 < 2 ^ i := Nat.two_pow_pos i
 have h1 : (2 : Nat) ^ (i + 1) = 2 ^ i + 2 ^ i := by rw [Nat.pow_succ]; omega
 have e1 : (2 ^ (i + 1) - 1) % 2 ^ i = 2 ^ i - 1 := by rw [show 2 ^ (i + 1) - 1 = (2 ^ i - 1) + 2 ^ i from by omega, Nat.add_mod_right, Nat.mod_eq_of_lt (by omega)]
 have e2 : (2 ^ (i + 1) - 1) / 2 ^ i = 1 := by rw [show 2 ^ (i + 1) - 1 = (2 ^ i - 1) + 2 ^ i from by omega, Nat.add_div_right _ h0, Nat.div_eq_of_lt (by omega)]
 rw [e1, e2, Nat.mod_eq_of_lt (show 2 ^ (i + 1) - 1 < 2 ^ (i + 1) by omega)] at b
 rw [leF_eq, leF_eq]; exact b
theorem FOf_any (k : List UInt8) (w : World) (hk : k.length = 32) : Fn P 47 [.agg (k.map byteV).toArray] w [] (fun v Y => Y = [] ∧ v = feV (LbF (leN k % 2 ^ 255))) := by
 refine Fn.of 30 [.cell 2 82] Go.Proofs.Tryz.func47 rfl rfl rfl rfl ?_
 refine zs ?_
 refine zc (T1.boxN (vs := (k).map byteV) 32 rfl (by rw [List.length_map, hk]) (fun b1 => ?_))
 refine zc (T1.allocN 5 zr_82 rfl (fun b2 => zs ?_))
 refine zc (T1.allocN 5 zr_82 rfl (fun b3 => ?_))
 refine TL.nil ?_
 refine T.seq (T.seq (T.region (z1 ?_)))
 refine T.block (T.loopL (σ := Nat) (l0 := [(1, _), (2, _), (3, _)]) (fun x => [(5, .int .i64 (x : Nat))]) (fun x L => L = ⟨b3, 0, (limbsF (leN k % 2 ^ x)).map w64, 5⟩ :: ⟨b2, 0, feC zeroF, 5⟩ :: ⟨b1, 0, k.map byteV, 32⟩ :: [] ∧ x ≤ 255) (fun x => 255 - x) 0 (.cons rfl .nil) zT z_B (⟨(show (⟨b3, 0, feC zeroF, 5⟩ :: ⟨b2, 0, feC zeroF, 5⟩ :: ⟨b1, 0, k.map byteV, 32⟩ :: [] : List Blk) = ⟨b3, 0, (limbsF (leN k % 2 ^ 0)).map w64, 5⟩ :: ⟨b2, 0, feC zeroF, 5⟩ :: ⟨b1, 0, k.map byteV, 32⟩ :: [] from by rw [limbsF_zero]), Nat.zero_le _⟩) ?_)
 rintro i e_ L ⟨rfl, hi⟩
 refine zs ?_
 refine zc (T1.ltI_split rfl rfl (fun h3 => ?_) (fun h3 => ?_))
 ·
  have hi3 : i < 255 := by omega
  refine zs ?_
  refine T.cond_t rfl (T.skip (T.seq (T.block (T.seq (T.region (z1 ?_))))))
  refine T.drawTail 20 mixed z_F zr z_F rfl ?_
  refine zd 0 (zO 4 zZ) (V1.move' z_C) ?_
  refine zd 1 (zN 8 0 rfl zZ) (V1.quo (c := ((i / 51 : Nat) : Int)) rfl rfl ze (by rw [show ((i : Int).tdiv 51) = ((i / 51 : Nat) : Int) from (Int.ofNat_tdiv i 51).symm]; exact wrap_i64 _ zw zw)) ?_
  refine zd 2 (zO 3 zZ) (V1.fieldAddr fl_82_0 rfl) ?_
  refine zd 3 (zN 9 1 rfl (zN 10 2 rfl zZ)) (V1.indexAddrA ty_80 sz_79 rfl rfl zw zw) ?_
  refine Det.cons 4 (zN 11 3 rfl zZ) (fun e_ => .inl ⟨rfl, V1.t (V1.load1 one_79 rfl (show Rd _ _ ⟨b3, 0 + 0 + (i / 51) * 1, none⟩ (w64 ((limbsF (leN k % 2 ^ i)).getD (i / 51) 0)) from by rw [show 0 + 0 + (i / 51) * 1 = 0 + i / 51 from by omega]; exact Rd.at z_A (limbsF_get zw))) ⟨rfl, rfl⟩⟩) ?_
  refine zd 5 (zO 4 zZ) (V1.move' z_C) ?_
  refine zd 6 (zN 13 5 rfl zZ) (V1.quo (c := ((i / 8 : Nat) : Int)) rfl rfl ze (by rw [show ((i : Int).tdiv 8) = ((i / 8 : Nat) : Int) from (Int.ofNat_tdiv i 8).symm]; exact wrap_i64 _ zw zw)) ?_
  refine zd 7 (zO 1 (zN 14 6 rfl zZ)) (V1.indexAddrA ty_36 sz_5 rfl rfl zw zw) ?_
  refine Det.cons 8 (zN 15 7 rfl zZ) (fun e_ => .inl ⟨rfl, V1.t (V1.load1 one_5 rfl (show Rd _ _ ⟨b1, 0 + (i / 8) * 1, none⟩ (byteV (k.getD (i / 8) 0)) from by rw [Nat.mul_one]; exact Rd.at z_A (bytes_get zw))) ⟨rfl, rfl⟩⟩) ?_
  refine zd 9 (zO 4 zZ) (V1.move' z_C) ?_
  refine zd 10 (zN 17 9 rfl zZ) (V1.rem (c := ((i % 8 : Nat) : Int)) rfl rfl ze (by rw [show ((i : Int).tmod 8) = ((i % 8 : Nat) : Int) from (Int.ofNat_tmod i 8).symm])) ?_
  refine zd 11 (zN 16 8 rfl (zN 18 10 rfl zZ)) (V1.shrW (a := (k.getD (i / 8) 0).toBitVec) (k := i % 8) u8U rfl rfl) ?_
  refine zd 12 (zN 19 11 rfl zZ) (V1.andW (a := (k.getD (i / 8) 0).toBitVec >>> (i % 8)) (b := 1#8) u8U rfl rfl) ?_
  refine zd 13 (zN 20 12 rfl zZ) (V1.convW 64 u64U ty_5 ty_79 rfl) ?_
  refine zd 14 (zO 4 zZ) (V1.move' z_C) ?_
  refine zd 15 (zN 22 14 rfl zZ) (V1.rem (c := ((i % 51 : Nat) : Int)) rfl rfl ze (by rw [show ((i : Int).tmod 51) = ((i % 51 : Nat) : Int) from (Int.ofNat_tmod i 51).symm])) ?_
  refine zd 16 (zN 21 13 rfl (zN 23 15 rfl zZ)) (V1.shlW (a := (((k.getD (i / 8) 0).toBitVec >>> (i % 8)) &&& 1#8).setWidth 64) (k := i % 51) u64U rfl rfl) ?_
  refine zd 17 (zN 12 4 rfl (zN 24 16 rfl zZ)) (V1.orW u64U rfl rfl) ?_
  refine zd 18 (zO 3 zZ) (V1.fieldAddr fl_82_0 rfl) ?_
  refine zd 19 (zN 9 1 rfl (zN 26 18 rfl zZ)) (V1.indexAddrA ty_80 sz_79 rfl rfl zw zw) ?_
  refine Det.nil 20 (zQ 1 (zQ 2 (zQ 3 (zQ 5 (zR 25 17 rfl (zR 27 19 rfl zW)))))) (fun e_ => ?_)
  refine (show TU _ _ _ 1 _ _ _ from ?_)
  refine TU.one 20 z_F rfl rfl (T1.storeE (o := 0 + 0 + (i / 51) * 1) (cells := (limbsF (leN k % 2 ^ i)).map w64) (cells' := (limbsF (leN k % 2 ^ (i + 1))).map w64) rfl rfl sz_79 rfl (by rw [show 0 + 0 + (i / 51) * 1 - 0 = i / 51 from by omega, ← of_step hk hi3, List.map_set]; rfl) z_H (Nat.zero_le _) (by rw [List.length_map, limbsF_len]; omega) ?_)
  refine TU.done z_F ?_
  refine T.region (zq1 (V1.add rfl rfl (wrap_i64 _ zw zw)) ?_)
  exact ⟨i + 1, ⟨b3, 0, (limbsF (leN k % 2 ^ (i + 1))).map w64, 5⟩ :: ⟨b2, 0, feC zeroF, 5⟩ :: ⟨b1, 0, k.map byteV, 32⟩ :: [], _, z_N, (.cons rfl .nil), (.cons rfl (.cons rfl (.cons rfl .nil))), z_B, ⟨rfl, by omega⟩⟩
 ·
  obtain rfl : i = 255 := by omega
  refine zs ?_
  refine T.cond_f rfl (zs ?_)
  refine z0 (V1.loadN (vs := feC (LbF (leN k % 2 ^ 255))) one_82 sz_82 rfl (limbsF_feC _ ▸ RdN.whole z_A) rfl) ?_
  refine zc (T1.storeN rfl rfl sz_82 (ones rfl) z_H zr zr ?_)
  refine zs ?_
  exact ⟨_, [], _, .cons (.cellN (vs := feC (LbF (leN k % 2 ^ 255))) z_C one_82 sz_82 (RdN.whole z_A) (by kernel_rfl)) .nil, Take.nil, rfl, rfl⟩
theorem leF_zero : (leF (2 ^ 0 - 1)).map byteV = List.replicate 32 (.int .u8 0) := by rw [leF_eq]; rfl
theorem leF_less {n : Nat} {less : UInt8} (h8 : 8 ≤ n) (hn : n ≤ 256) : (leF (2 ^ n - 1)).set 0 (UInt8.ofBitVec (((leF (2 ^ n - 1)).getD 0 0).toBitVec - less.toBitVec)) = leF (2 ^ n - 1 - less.toNat) := by
 have := ones_less (n := n) (less := less.toNat) h8 hn (by have := less.toNat_lt; omega)
 rw [UInt8.ofNat_toNat] at this
 rw [leF_eq, leF_eq]; exact this
theorem mulF_spec {x y : L5} (hx : x.norm) (hy : y.norm) : (mulF x y).norm ∧ (mulF x y).fe = x.fe * y.fe := by unfold mulF; rw [lock_eq]; exact L5.mul_spec hx hy
theorem subF_spec {x y : L5} (hx : x.norm) (hy : y.norm) : (subF x y).norm ∧ (subF x y).fe = x.fe - y.fe := by unfold subF; rw [lock_eq]; exact L5.sub_spec hx hy
theorem oneF_norm : oneF.norm := by unfold L5.norm oneF; decide
theorem oneF_fe : oneF.fe = 1 := by unfold L5.fe oneF; rw [five_nat]; rfl
theorem zeroF_norm : zeroF.norm := by unfold L5.norm zeroF; decide
theorem zeroF_fe : zeroF.fe = 0 := by unfold L5.fe zeroF; rw [five_nat]; rfl
theorem ones_any (n : Nat) (less : UInt8) (w : World) (h8 : 8 ≤ n) (hn : n ≤ 256) : Fn P 102 [.int .i64 (n : Int), byteV less] w [] (fun v Y => Y = [] ∧ v = .agg ((leF (2 ^ n - 1 - less.toNat)).map byteV).toArray) := by
 refine Fn.of 27 [.cell 4 36] Go.Proofs.Tryz.func102 rfl rfl rfl rfl ?_
 refine zs ?_
 refine zc (T1.allocN 32 zr_36 rfl (fun b4 => zs ?_))
 refine zc (T1.allocN 32 zr_36 rfl (fun b5 => ?_))
 refine TL.nil ?_
 refine T.seq (T.seq (T.region (z1 ?_)))
 refine T.block (T.loopL (σ := Nat) (l0 := [(1, _), (4, _), (5, _), (7, _)]) (fun x => [(8, .int .i64 (x : Nat))]) (fun x L => L = ⟨b5, 0, (leF (2 ^ x - 1)).map byteV, 32⟩ :: ⟨b4, 0, List.replicate 32 (.int .u8 0), 32⟩ :: [] ∧ x ≤ n) (fun x => n - x) 0 (.cons rfl .nil) zT z_B (⟨(show (⟨b5, 0, List.replicate 32 (.int .u8 0), 32⟩ :: ⟨b4, 0, List.replicate 32 (.int .u8 0), 32⟩ :: [] : List Blk) = ⟨b5, 0, (leF (2 ^ 0 - 1)).map byteV, 32⟩ :: ⟨b4, 0, List.replicate 32 (.int .u8 0), 32⟩ :: [] from by rw [leF_zero]), Nat.zero_le _⟩) ?_)
 rintro i e_ L ⟨rfl, hi⟩
 refine zs ?_
 refine zc (T1.ltI_split rfl rfl (fun h3 => ?_) (fun h3 => ?_))
 ·
  have hi3 : i < n := by omega
  refine zs ?_
  refine T.cond_t rfl (T.skip (T.seq (T.block (T.seq (T.region (z1 ?_))))))
  refine T.drawTail 9 mixed z_F zr z_F rfl ?_
  refine zd 0 (zO 6 zZ) (V1.move' z_C) ?_
  refine zd 1 (zN 11 0 rfl zZ) (V1.quo (c := ((i / 8 : Nat) : Int)) rfl rfl ze (by rw [show ((i : Int).tdiv 8) = ((i / 8 : Nat) : Int) from (Int.ofNat_tdiv i 8).symm]; exact wrap_i64 _ zw zw)) ?_
  refine zd 2 (zO 5 (zN 12 1 rfl zZ)) (V1.indexAddrA ty_36 sz_5 rfl rfl zw zw) ?_
  refine Det.cons 3 (zN 13 2 rfl zZ) (fun e_ => .inl ⟨rfl, V1.t (V1.load1 one_5 rfl (show Rd _ _ ⟨b5, 0 + (i / 8) * 1, none⟩ (byteV ((leF (2 ^ i - 1)).getD (i / 8) 0)) from by rw [Nat.mul_one]; exact Rd.at z_A (bytes_get (by rw [leF_len]; omega)))) ⟨rfl, rfl⟩⟩) ?_
  refine zd 4 (zO 6 zZ) (V1.move' z_C) ?_
  refine zd 5 (zN 15 4 rfl zZ) (V1.rem (c := ((i % 8 : Nat) : Int)) rfl rfl ze (by rw [show ((i : Int).tmod 8) = ((i % 8 : Nat) : Int) from (Int.ofNat_tmod i 8).symm])) ?_
  refine zd 6 (zN 16 5 rfl zZ) (V1.shlW (a := 1#8) (k := i % 8) u8U rfl rfl) ?_
  refine zd 7 (zN 14 3 rfl (zN 17 6 rfl zZ)) (V1.orW (a := ((leF (2 ^ i - 1)).getD (i / 8) 0).toBitVec) (b := 1#8 <<< (i % 8)) u8U rfl rfl) ?_
  refine zd 8 (zO 5 (zN 12 1 rfl zZ)) (V1.indexAddrA ty_36 sz_5 rfl rfl zw zw) ?_
  refine Det.nil 9 (zQ 1 (zQ 4 (zQ 5 (zQ 7 (zQ 8 (zR 18 7 rfl (zR 19 8 rfl zW))))))) (fun e_ => ?_)
  refine (show TU _ _ _ 1 _ _ _ from ?_)
  refine TU.one 9 z_F rfl rfl (T1.storeE (o := 0 + (i / 8) * 1) (cells := (leF (2 ^ i - 1)).map byteV) (cells' := (leF (2 ^ (i + 1) - 1)).map byteV) rfl rfl sz_5 rfl (by rw [show 0 + (i / 8) * 1 - 0 = i / 8 from by omega, ← ones_step (show i < 256 by omega), List.map_set]; rfl) z_H (Nat.zero_le _) (by rw [List.length_map, leF_len]; omega) ?_)
  refine TU.done z_F ?_
  refine T.region (zq1 (V1.add rfl rfl (wrap_i64 _ zw zw)) ?_)
  exact ⟨i + 1, ⟨b5, 0, (leF (2 ^ (i + 1) - 1)).map byteV, 32⟩ :: ⟨b4, 0, List.replicate 32 (.int .u8 0), 32⟩ :: [], _, z_N, (.cons rfl .nil), (.cons rfl (.cons rfl (.cons rfl (.cons rfl .nil)))), z_B, ⟨rfl, by omega⟩⟩
 ·
  obtain rfl : i = n := by omega
  refine zs ?_
  refine T.cond_f rfl (zs ?_)
  refine z0 (V1.indexAddrA ty_36 sz_5 rfl rfl ze ze) ?_
  refine zq (V1.load1 one_5 rfl (show Rd _ _ ⟨b5, 0 + 0 * 1, none⟩ (byteV ((leF (2 ^ i - 1)).getD 0 0)) from by rw [Nat.mul_one]; exact Rd.at z_A (bytes_get (by rw [leF_len]; omega)))) ?_
  refine z0 (V1.subW (a := ((leF (2 ^ i - 1)).getD 0 0).toBitVec) (b := less.toBitVec) u8U rfl rfl) ?_
  refine z0 (V1.indexAddrA ty_36 sz_5 rfl rfl ze ze) ?_
  refine zc (T1.storeE (o := 0 + 0 * 1) (cells := (leF (2 ^ i - 1)).map byteV) (cells' := (leF (2 ^ i - 1 - less.toNat)).map byteV) rfl rfl sz_5 rfl (by rw [show 0 + 0 * 1 - 0 = 0 from rfl, ← leF_less h8 hn, List.map_set]; rfl) z_H (Nat.zero_le _) (by rw [List.length_map, leF_len]; omega) ?_)
  refine zs ?_
  refine z0 (V1.loadN (vs := (leF (2 ^ i - 1 - less.toNat)).map byteV) one_36 sz_36 rfl (RdN.whole z_A) z_M) ?_
  refine zc (T1.storeN rfl rfl sz_36 (one_bytes _) z_H z_Q z_M ?_)
  refine zs ?_
  exact ⟨_, [], _, .cons (.cellN z_C one_36 sz_36 (RdN.whole z_A) z_M) .nil, Take.nil, rfl, rfl⟩
theorem Power_any (x : L5) (k : List UInt8) (w : World) (hx : x.norm) (hk : k.length = 32) : Fn P 101 [feV x, .agg (k.map byteV).toArray] w [] (fun v Y => Y = [] ∧ FeR (x.fe ^ leN k) v) := by
 refine Fn.of 28 [.cell 4 82] Go.Proofs.Tryz.func101 rfl rfl rfl rfl ?_
 refine zs ?_
 refine zc (T1.boxN 5 rfl rfl (fun b2 => ?_))
 refine zc (T1.boxN (vs := (k).map byteV) 32 rfl (by rw [List.length_map, hk]) (fun b3 => ?_))
 refine zc (T1.allocN 5 zr_82 rfl (fun b4 => zs ?_))
 refine zc (T1.call0 has_48 rfl (fun w hs => Small_any 1#32 w) (fun v hv => ?_))
 subst hv
 refine zc (T1.allocN 5 zr_82 rfl (fun b5 => ?_))
 refine zc (T1.storeN rfl rfl sz_82 (ones rfl) z_H zr zr ?_)
 refine TL.nil ?_
 refine T.seq (T.seq (T.region (z1 ?_)))
 refine T.block (T.loopL (σ := Nat × L5) (l0 := [(2, _), (3, _), (4, _), (5, _)]) (fun x => [(6, .int .i64 ((x.1 : Nat) - 1 : Int))]) (fun q L => L = ⟨b5, 0, feC q.2, 5⟩ :: ⟨b4, 0, feC zeroF, 5⟩ :: ⟨b3, 0, k.map byteV, 32⟩ :: ⟨b2, 0, feC x, 5⟩ :: [] ∧ q.2.norm ∧ q.2.fe = x.fe ^ (leN k / 2 ^ q.1) ∧ q.1 ≤ 256) (fun q => q.1) (256, oneF) (.cons (show Value.int .i64 255 = Value.int .i64 (((256 : Nat) : Int) - 1) from rfl) .nil) zT z_B (⟨(rfl : (⟨b5, 0, feC oneF, 5⟩ :: ⟨b4, 0, feC zeroF, 5⟩ :: ⟨b3, 0, k.map byteV, 32⟩ :: ⟨b2, 0, feC x, 5⟩ :: [] : List Blk) = _), oneF_norm, by rw [high_none hk, Lean.Grind.Semiring.pow_zero]; exact oneF_fe, Nat.le_refl _⟩) ?_)
 rintro ⟨r, y⟩ e_ L ⟨rfl, hyn, hyf, hr⟩
 simp only at hyn hyf hr
 refine zs ?_
 refine zc (T1.geI_split rfl rfl (fun h3 => ?_) (fun h3 => ?_))
 ·
  simp only at h3
  obtain ⟨i, rfl⟩ : ∃ i, r = i + 1 := ⟨r - 1, by omega⟩
  have hyy := mulF_spec hyn hyn
  have hbt : (((((k.getD (i / 8) 0).toBitVec >>> (i % 8)) &&& 1#8).toNat : Nat)) = leN k / 2 ^ i % 2 := by rw [bit8, byte_bit zw, BitVec.toNat_ofNat]; omega
  refine TL.nil ?_
  refine T.cond_t rfl (zs ?_)
  refine z0 (V1.loadN one_82 sz_82 rfl (RdN.whole z_A) zr) ?_
  refine z0 (V1.loadN one_82 sz_82 rfl (RdN.whole z_A) zr) ?_
  refine zc (T1.call0 has_49 rfl (fun w hs => Mul_any y y w) (fun v hv => ?_))
  subst hv
  refine zc (T1.storeN rfl rfl sz_82 (ones rfl) z_H zr zr ?_)
  refine zs ?_
  refine z0 (V1.quo (c := ((i / 8 : Nat) : Int)) rfl rfl ze (by rw [(show (((i + 1 : Nat) : Int) - 1) = (i : Int) from by omega), show ((i : Int).tdiv 8) = ((i / 8 : Nat) : Int) from (Int.ofNat_tdiv i 8).symm]; exact wrap_i64 _ zw zw)) ?_
  refine z0 (V1.indexAddrA ty_36 sz_5 rfl rfl zw zw) ?_
  refine zq (V1.load1 one_5 rfl (show Rd _ _ ⟨b3, 0 + (i / 8) * 1, none⟩ (byteV (k.getD (i / 8) 0)) from by rw [Nat.mul_one]; exact Rd.at z_A (bytes_get zw))) ?_
  refine z0 (V1.rem (c := ((i % 8 : Nat) : Int)) rfl rfl ze (by rw [(show (((i + 1 : Nat) : Int) - 1) = (i : Int) from by omega), show ((i : Int).tmod 8) = ((i % 8 : Nat) : Int) from (Int.ofNat_tmod i 8).symm])) ?_
  refine z0 (V1.shrW (a := (k.getD (i / 8) 0).toBitVec) (k := i % 8) u8U rfl rfl) ?_
  refine z0 (V1.andW (a := (k.getD (i / 8) 0).toBitVec >>> (i % 8)) (b := 1#8) u8U rfl rfl) ?_
  refine zc (T1.eqI_split rfl rfl (fun h6 => ?_) (fun h6 => ?_))
  ·
   have hbit : leN k / 2 ^ i % 2 = 1 := by rw [← hbt]; omega
   refine TL.nil ?_
   refine T.cond_t rfl (T.live (l := [(2, _), (3, _), (4, _), (5, _), (6, _)]) zT (fun e_ => ?_))
   refine T.region (z0 (V1.loadN one_82 sz_82 rfl (RdN.whole z_A) zr) ?_)
   refine z0 (V1.loadN one_82 sz_82 rfl (RdN.whole z_A) zr) ?_
   refine zc (T1.call0 has_49 rfl (fun w hs => Mul_any (mulF y y) x w) (fun v hv => ?_))
   subst hv
   refine zc (T1.storeN rfl rfl sz_82 (ones rfl) z_H zr zr ?_)
   refine zs ?_
   refine zq1 (V1.sub (c := (i : Int) - 1) rfl rfl z_J) ?_
   exact ⟨(i, mulF (mulF y y) x), ⟨b5, 0, feC (mulF (mulF y y) x), 5⟩ :: ⟨b4, 0, feC zeroF, 5⟩ :: ⟨b3, 0, k.map byteV, 32⟩ :: ⟨b2, 0, feC x, 5⟩ :: [], _, z_N, (.cons (congrArg (Value.int .i64) (by first | rfl | omega)) .nil), (.cons rfl (.cons rfl (.cons rfl (.cons rfl .nil)))), z_B, ⟨rfl, (mulF_spec hyy.1 hx).1, by simp only; rw [(mulF_spec hyy.1 hx).2, hyy.2, hyf, pow_bit1 hbit], by simp only; omega⟩⟩
  ·
   have hbit : leN k / 2 ^ i % 2 = 0 := by have := Nat.mod_lt (leN k / 2 ^ i) (show 2 > 0 by decide); rw [hbt] at h6; omega
   refine TL.nil ?_
   refine T.cond_f rfl (T.skip (T.live (l := [(2, _), (3, _), (4, _), (5, _), (6, _)]) zT (fun e_ => ?_)))
   refine zs ?_
   refine zq1 (V1.sub (c := (i : Int) - 1) rfl rfl z_J) ?_
   exact ⟨(i, mulF y y), ⟨b5, 0, feC (mulF y y), 5⟩ :: ⟨b4, 0, feC zeroF, 5⟩ :: ⟨b3, 0, k.map byteV, 32⟩ :: ⟨b2, 0, feC x, 5⟩ :: [], _, z_N, (.cons (congrArg (Value.int .i64) (by first | rfl | omega)) .nil), (.cons rfl (.cons rfl (.cons rfl (.cons rfl .nil)))), z_B, ⟨rfl, hyy.1, by simp only; rw [hyy.2, hyf, pow_bit0 hbit], by simp only; omega⟩⟩
 ·
  simp only at h3
  obtain rfl : r = 0 := by omega
  refine TL.nil ?_
  refine T.cond_f rfl (zs ?_)
  refine z0 (V1.loadN one_82 sz_82 rfl (RdN.whole z_A) zr) ?_
  refine zc (T1.storeN rfl rfl sz_82 (ones rfl) z_H zr zr ?_)
  refine zs ?_
  exact ⟨_, [], _, .cons (.cellN z_C one_82 sz_82 (RdN.whole z_A) (by kernel_rfl)) .nil, Take.nil, rfl, _, rfl, hyn, by rw [hyf]; simp only [low_all]⟩
end Go.Proofs.YtfjedhmffccgnaaGreatDoor.S
