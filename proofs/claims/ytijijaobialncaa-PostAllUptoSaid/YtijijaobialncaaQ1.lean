/- Rows of numbers turned in place: what each part of the sort does. -/
import Derived.Test.YtijijaobialncaaO1
import Derived.Test.YtijijaobialncaaOpsM
import Derived.Test.YtijijaobialncaaPdqSpec
namespace Go.Proofs.Ytijijaobialncaa.S
open Go.RowKit

theorem gV {xs : List Nat} {i : Nat} (h : i < xs.length) : (xs.map u32V)[i]? = some (u32V (g xs i)) := by rw [List.getElem?_map, g_at h]; rfl
theorem Asc.sub {a b c : Nat} {xs : List Nat} (h : Asc a b xs) (hc : c ≤ b) : Asc a c xs := fun p q h1 h2 h3 => h p q h1 h2 (by omega)
set_option maxRecDepth 100000 in
set_option maxHeartbeats 8000000 in
theorem insG (w0 : World) (b off size cap n : Nat) (xs0 : List Nat) (hxl : xs0.length = n) (hn : n ≤ 1000000) (a e : Nat) (hae : a ≤ e) (hen : e ≤ n) : FnG P 60 [.slice (some ⟨b, off, none⟩) n cap, .int .i64 ((a : Nat) : Int), .int .i64 ((e : Nat) : Int)] w0 [] [(⟨b, off, (xs0).map u32V, size⟩ : Blk)] (fun v Y => ∃ ys, Y = [(⟨b, off, (ys).map u32V, size⟩ : Blk)] ∧ Sw a e xs0 ys ∧ Asc a e ys) := by
  refine FnG.of 49 [] Go.Proofs.Try.func60 rfl rfl rfl rfl (fun G hG => ?_)
  simp only [List.cons_append, List.nil_append]
  refine T.seq ?_
  refine T.region ?_
  refine TL.cons rfl (V1.t (V1.move' z_B) ?_)
  refine TL.cons rfl (V1.t (V1.add (c := ((a + 1 : Nat) : Int)) rfl rfl (by rw [wrap_i64 _ (by omega) (by omega)]; omega)) ?_)
  refine TL.cons rfl (V1.t (V1.assign' z_B) ?_)
  refine TL.nil ?_
  refine T.block ?_
  refine T.loopL (σ := Nat × List Nat) (l0 := [(0, _), (1, _), (2, _)]) (fun x => [(6, .int .i64 ((x.1 : Nat) : Int))]) (fun x L => L = (⟨b, off, (x.2).map u32V, size⟩ : Blk) :: G ∧ a + 1 ≤ x.1 ∧ (x.1 ≤ e ∨ x.1 = a + 1) ∧ Sw a e xs0 x.2 ∧ Asc a x.1 x.2) (fun x => e + 1 - x.1) (a + 1, xs0) (.cons rfl .nil) (.cons z_B (.cons z_B (.cons z_B .nil))) z_A (⟨rfl, Nat.le_refl _, .inr rfl, Sw.refl, fun p q h1 h2 h3 => (by simp only at h3; omega)⟩) ?_
  rintro ⟨i, xs⟩ e_ L ⟨rfl, hi1, hi2, hsw, has⟩
  dsimp only at hi1 hi2 hsw has
  dsimp only
  have hxn := hsw.len
  refine T.seq ?_
  refine T.seq ?_
  refine T.region ?_
  refine TL.cons rfl (V1.t (V1.move' z_B) ?_)
  refine TL.cons rfl (V1.t (V1.move' z_B) ?_)
  refine TL.cons rfl (T1.ltI_split rfl rfl (fun h1 => ?_) (fun h1 => ?_))
  ·
    refine TL.nil ?_
    refine T.cond_t rfl ?_
    refine T.skip ?_
    refine T.seq ?_
    refine T.block ?_
    refine T.seq ?_
    refine T.region ?_
    refine TL.cons rfl (V1.t (V1.move' z_B) ?_)
    refine TL.cons rfl (V1.t (V1.assign' z_B) ?_)
    refine TL.nil ?_
    refine T.block ?_
    refine T.loopL (σ := Nat × List Nat) (l0 := [(0, _), (1, _), (2, _), (6, _)]) (fun x => [(7, .int .i64 ((x.1 : Nat) : Int))]) (fun x L => L = (⟨b, off, (x.2).map u32V, size⟩ : Blk) :: G ∧ a ≤ x.1 ∧ x.1 ≤ i ∧ Sw a e xs0 x.2 ∧ Insd a i x.1 x.2) (fun x => x.1) (i, xs) (.cons rfl .nil) (.cons z_B (.cons z_B (.cons z_B (.cons z_B .nil)))) z_A (⟨rfl, by simp only; omega, Nat.le_refl _, hsw, Insd.start has⟩) ?_
    rintro ⟨j, ys⟩ e_ L ⟨rfl, hj1, hj2, hsw2, hins⟩
    dsimp only at hj1 hj2 hsw2 hins
    dsimp only
    have hyn := hsw2.len
    refine T.seq ?_
    refine T.seq ?_
    rcases Nat.lt_or_ge a j with hja | hja
    rcases Nat.lt_or_ge (g ys j) (g ys (j - 1)) with hl | hl
    ·
      refine T.drawDet' mixed z_F ?_
      refine Det.cons 0 (ins := [(7, _)]) (.old z_B z_F .nil) (fun e_ => .inl ⟨rfl, V1.t (V1.move' z_B) ⟨rfl, rfl⟩⟩) ?_
      refine Det.cons 1 (ins := [(1, _)]) (.old z_B z_F .nil) (fun e_ => .inl ⟨rfl, V1.t (V1.move' z_B) ⟨rfl, rfl⟩⟩) ?_
      refine Det.cons 2 (ins := [(16, _), (17, _)]) (.new 0 1 z_F rfl rfl (.new 1 0 z_F rfl rfl .nil)) (fun e_ => .inl ⟨rfl, V1.t (V1.gtI (r := true) rfl rfl (decide_eq_true (by omega))) ⟨rfl, rfl⟩⟩) ?_
      refine Det.cons 3 (ins := [(18, _)]) (.new 2 0 z_F rfl rfl .nil) (fun e_ => .inl ⟨rfl, V1.t (V1.move' z_B) ⟨rfl, rfl⟩⟩) ?_
      refine Det.cons 4 (ins := [(0, _), (19, _)]) (.old z_B z_F (.new 3 0 z_F rfl rfl .nil)) (fun e_ => .inl ⟨rfl, V1.t (V1.move' z_B) ⟨rfl, rfl⟩⟩) ?_
      refine Det.cons 5 (ins := [(7, _), (19, _)]) (.old z_B z_F (.new 3 1 z_F rfl rfl .nil)) (fun e_ => .inl ⟨rfl, V1.t (V1.move' z_B) ⟨rfl, rfl⟩⟩) ?_
      refine Det.cons 6 (ins := [(19, _), (20, _), (21, _)]) (.new 3 2 z_F rfl rfl (.new 4 1 z_F rfl rfl (.new 5 0 z_F rfl rfl .nil))) (fun e_ => .inl ⟨rfl, V1.t (V1.indexAddrS ty_36 sz_27 rfl rfl (by omega) (by omega)) ⟨rfl, rfl⟩⟩) ?_
      refine Det.cons 7 (ins := [(19, _), (22, _)]) (.new 3 3 z_F rfl rfl (.new 6 0 z_F rfl rfl .nil)) (fun e_ => .inl ⟨rfl, V1.t (V1.load1 (v := u32V (g ys (j))) one_27 rfl (ib_rd (cs := (ys).map u32V) (k := j) z_D (gV (by omega)))) ⟨rfl, rfl⟩⟩) ?_
      refine Det.cons 8 (ins := [(0, _), (19, _)]) (.old z_B z_F (.new 3 4 z_F rfl rfl .nil)) (fun e_ => .inl ⟨rfl, V1.t (V1.move' z_B) ⟨rfl, rfl⟩⟩) ?_
      refine Det.cons 9 (ins := [(7, _), (19, _)]) (.old z_B z_F (.new 3 5 z_F rfl rfl .nil)) (fun e_ => .inl ⟨rfl, V1.t (V1.move' z_B) ⟨rfl, rfl⟩⟩) ?_
      refine Det.cons 10 (ins := [(19, _), (25, _)]) (.new 3 6 z_F rfl rfl (.new 9 0 z_F rfl rfl .nil)) (fun e_ => .inl ⟨rfl, V1.t (V1.sub (c := ((j - 1 : Nat) : Int)) rfl rfl (by rw [wrap_i64 _ (by omega) (by omega)]; omega)) ⟨rfl, rfl⟩⟩) ?_
      refine Det.cons 11 (ins := [(19, _), (24, _), (26, _)]) (.new 3 7 z_F rfl rfl (.new 8 2 z_F rfl rfl (.new 10 0 z_F rfl rfl .nil))) (fun e_ => .inl ⟨rfl, V1.t (V1.indexAddrS ty_36 sz_27 rfl rfl (by omega) (by omega)) ⟨rfl, rfl⟩⟩) ?_
      refine Det.cons 12 (ins := [(19, _), (27, _)]) (.new 3 8 z_F rfl rfl (.new 11 0 z_F rfl rfl .nil)) (fun e_ => .inl ⟨rfl, V1.t (V1.load1 (v := u32V (g ys (j - 1))) one_27 rfl (ib_rd (cs := (ys).map u32V) (k := j - 1) z_D (gV (by omega)))) ⟨rfl, rfl⟩⟩) ?_
      refine Det.cons 13 (ins := [(19, _), (23, _), (28, _)]) (v := .bool true) (.new 3 9 z_F rfl rfl (.new 7 5 z_F rfl rfl (.new 12 0 z_F rfl rfl .nil))) (fun e_ => .inl ⟨rfl, ?_⟩) ?_
      · refine T1.call0 has_66 rfl (fun w hs => LessI_any (g ys (j) : Int) (g ys (j - 1) : Int) w) (fun v_ hv => ?_)
        obtain rfl := hv
        rw [decide_eq_true (by omega)]
        exact ⟨rfl, rfl⟩
      refine Det.cons 14 (ins := [(19, _), (29, _)]) (.new 3 10 z_F rfl rfl (.new 13 0 z_F rfl rfl .nil)) (fun e_ => .inl ⟨rfl, V1.t (V1.pick rfl z_B) ⟨rfl, rfl⟩⟩) ?_
      refine Det.nil 15 (l := [(0, _), (1, _), (2, _), (6, _), (7, _), (30, _)]) (.old z_B z_F (.old z_B z_F (.old z_B z_F (.old z_B z_F (.old z_B z_F (.new 14 0 z_F rfl rfl .nil)))))) (fun e_ => ?_)
      refine T.cond_t rfl ?_
      refine T.skip ?_
      refine T.seq ?_
      refine T.block ?_
      refine T.drawZ (fun L_ => Find L_ (⟨b, off, (ys).map u32V, size⟩ : Blk)) 15 mixed z_D ?_
      refine TZ.pure 0 rfl z_F z_F z_F z_F rfl (fun _ _ _ h => h) (fun _ => V1.move' z_B) ?_
      refine TZ.pure 1 rfl z_F z_F z_F z_F rfl (fun _ _ _ h => h) (fun _ => V1.move' z_B) ?_
      refine TZ.pure 2 rfl z_F z_F z_F z_F rfl (fun _ _ _ h => h) (fun _ => V1.move' z_B) ?_
      refine TZ.pure 3 rfl z_F z_F z_F z_F rfl (fun _ _ _ h => h) (fun _ => V1.move' z_B) ?_
      refine TZ.pure 4 rfl z_F z_F z_F z_F rfl (fun _ _ _ h => h) (fun _ => V1.sub (c := ((j - 1 : Nat) : Int)) rfl rfl (by rw [wrap_i64 _ (by omega) (by omega)]; omega)) ?_
      refine TZ.pure 5 rfl z_F z_F z_F z_F rfl (fun _ _ _ h => h) (fun _ => V1.move' z_B) ?_
      refine TZ.pure 6 rfl z_F z_F z_F z_F rfl (fun _ _ _ h => h) (fun _ => V1.move' z_B) ?_
      refine TZ.pure 7 rfl z_F z_F z_F z_F rfl (fun _ _ _ h => h) (fun _ => V1.sub (c := ((j - 1 : Nat) : Int)) rfl rfl (by rw [wrap_i64 _ (by omega) (by omega)]; omega)) ?_
      refine TZ.pure 8 rfl z_F z_F z_F z_F rfl (fun _ _ _ h => h) (fun _ => V1.indexAddrS ty_36 sz_27 rfl rfl (by omega) (by omega)) ?_
      refine TZ.pure 10 rfl z_F z_F z_F z_F rfl (fun _ _ _ h => h) (fun _ => V1.move' z_B) ?_
      refine TZ.pure 11 rfl z_F z_F z_F z_F rfl (fun _ _ _ h => h) (fun _ => V1.move' z_B) ?_
      refine TZ.pure 12 rfl z_F z_F z_F z_F rfl (fun _ _ _ h => h) (fun _ => V1.indexAddrS ty_36 sz_27 rfl rfl (by omega) (by omega)) ?_
      refine TZ.read 9 rfl z_F z_F z_F z_F rfl (fun _ _ _ h => h) (fun L_ k1_ => V1.load1 (v := u32V (g ys (j - 1))) one_27 rfl (ib_rd (cs := (ys).map u32V) (k := j - 1) z_D (gV (by omega)))) ?_
      refine TZ.read 13 rfl z_F z_F z_F z_F rfl (fun _ _ _ h => h) (fun L_ k1_ => V1.load1 (v := u32V (g ys (j))) one_27 rfl (ib_rd (cs := (ys).map u32V) (k := j) z_D (gV (by omega)))) ?_
      refine TZ.pure 14 rfl z_F z_F z_F z_F rfl (fun _ _ _ h => h) (fun _ => V1.indexAddrS ty_36 sz_27 rfl rfl (by omega) (by omega)) ?_
      refine TZ.one 15 z_F rfl z_F rfl (T1.storeE (o := off + (j) * 1) (off := off) (size := size) (cells := (ys).map u32V) (cells' := ((ys).set (j) (g ys (j - 1))).map u32V) (v := u32V (g ys (j - 1))) rfl rfl sz_27 rfl (by rw [show off + (j) * 1 - off = j by omega]; exact List.map_set.symm) z_H (by omega) (by simp only [List.length_map, List.length_set]; omega) ?_)
      refine TZ.pure 16 rfl z_F z_F z_F z_F rfl (fun _ _ _ h => h) (fun _ => V1.indexAddrS ty_36 sz_27 rfl rfl (by omega) (by omega)) ?_
      refine TZ.one 17 z_F rfl z_F rfl (T1.storeE (o := off + (j - 1) * 1) (off := off) (size := size) (cells := ((ys).set (j) (g ys (j - 1))).map u32V) (cells' := (((ys).set (j) (g ys (j - 1))).set (j - 1) (g ys (j))).map u32V) (v := u32V (g ys (j))) rfl rfl sz_27 rfl (by rw [show off + (j - 1) * 1 - off = j - 1 by omega]; exact List.map_set.symm) z_H (by omega) (by simp only [List.length_map, List.length_set]; omega) ?_)
      refine TZ.done z_F ?_
      refine T.live (l := [(0, _), (1, _), (2, _), (6, _), (7, _)]) (.cons z_B (.cons z_B (.cons z_B (.cons z_B (.cons z_B .nil))))) (fun e_ => ?_)
      refine T.region ?_
      refine TL.cons rfl (V1.t (V1.move' z_B) ?_)
      refine TL.cons rfl (V1.t (V1.sub (c := ((j - 1 : Nat) : Int)) rfl rfl (by rw [wrap_i64 _ (by omega) (by omega)]; omega)) ?_)
      refine TL.cons rfl (V1.t (V1.assign' z_B) ?_)
      refine TL.nil ?_
      exact ⟨(j - 1, swp ys j (j - 1)), (⟨b, off, (swp ys j (j - 1)).map u32V, size⟩ : Blk) :: G, _, (by simp only; omega), (.cons rfl .nil), (.cons rfl (.cons rfl (.cons rfl (.cons rfl .nil)))), z_A, ⟨rfl, by simp only; omega, by simp only; omega, hsw2.trans (Sw.swap (by omega) (by omega) (by omega) (by omega) (by omega)), hins.step (by omega) hj2 (by omega) hl⟩⟩
    ·
      refine T.drawDet' mixed z_F ?_
      refine Det.cons 0 (ins := [(7, _)]) (.old z_B z_F .nil) (fun e_ => .inl ⟨rfl, V1.t (V1.move' z_B) ⟨rfl, rfl⟩⟩) ?_
      refine Det.cons 1 (ins := [(1, _)]) (.old z_B z_F .nil) (fun e_ => .inl ⟨rfl, V1.t (V1.move' z_B) ⟨rfl, rfl⟩⟩) ?_
      refine Det.cons 2 (ins := [(16, _), (17, _)]) (.new 0 1 z_F rfl rfl (.new 1 0 z_F rfl rfl .nil)) (fun e_ => .inl ⟨rfl, V1.t (V1.gtI (r := true) rfl rfl (decide_eq_true (by omega))) ⟨rfl, rfl⟩⟩) ?_
      refine Det.cons 3 (ins := [(18, _)]) (.new 2 0 z_F rfl rfl .nil) (fun e_ => .inl ⟨rfl, V1.t (V1.move' z_B) ⟨rfl, rfl⟩⟩) ?_
      refine Det.cons 4 (ins := [(0, _), (19, _)]) (.old z_B z_F (.new 3 0 z_F rfl rfl .nil)) (fun e_ => .inl ⟨rfl, V1.t (V1.move' z_B) ⟨rfl, rfl⟩⟩) ?_
      refine Det.cons 5 (ins := [(7, _), (19, _)]) (.old z_B z_F (.new 3 1 z_F rfl rfl .nil)) (fun e_ => .inl ⟨rfl, V1.t (V1.move' z_B) ⟨rfl, rfl⟩⟩) ?_
      refine Det.cons 6 (ins := [(19, _), (20, _), (21, _)]) (.new 3 2 z_F rfl rfl (.new 4 1 z_F rfl rfl (.new 5 0 z_F rfl rfl .nil))) (fun e_ => .inl ⟨rfl, V1.t (V1.indexAddrS ty_36 sz_27 rfl rfl (by omega) (by omega)) ⟨rfl, rfl⟩⟩) ?_
      refine Det.cons 7 (ins := [(19, _), (22, _)]) (.new 3 3 z_F rfl rfl (.new 6 0 z_F rfl rfl .nil)) (fun e_ => .inl ⟨rfl, V1.t (V1.load1 (v := u32V (g ys (j))) one_27 rfl (ib_rd (cs := (ys).map u32V) (k := j) z_D (gV (by omega)))) ⟨rfl, rfl⟩⟩) ?_
      refine Det.cons 8 (ins := [(0, _), (19, _)]) (.old z_B z_F (.new 3 4 z_F rfl rfl .nil)) (fun e_ => .inl ⟨rfl, V1.t (V1.move' z_B) ⟨rfl, rfl⟩⟩) ?_
      refine Det.cons 9 (ins := [(7, _), (19, _)]) (.old z_B z_F (.new 3 5 z_F rfl rfl .nil)) (fun e_ => .inl ⟨rfl, V1.t (V1.move' z_B) ⟨rfl, rfl⟩⟩) ?_
      refine Det.cons 10 (ins := [(19, _), (25, _)]) (.new 3 6 z_F rfl rfl (.new 9 0 z_F rfl rfl .nil)) (fun e_ => .inl ⟨rfl, V1.t (V1.sub (c := ((j - 1 : Nat) : Int)) rfl rfl (by rw [wrap_i64 _ (by omega) (by omega)]; omega)) ⟨rfl, rfl⟩⟩) ?_
      refine Det.cons 11 (ins := [(19, _), (24, _), (26, _)]) (.new 3 7 z_F rfl rfl (.new 8 2 z_F rfl rfl (.new 10 0 z_F rfl rfl .nil))) (fun e_ => .inl ⟨rfl, V1.t (V1.indexAddrS ty_36 sz_27 rfl rfl (by omega) (by omega)) ⟨rfl, rfl⟩⟩) ?_
      refine Det.cons 12 (ins := [(19, _), (27, _)]) (.new 3 8 z_F rfl rfl (.new 11 0 z_F rfl rfl .nil)) (fun e_ => .inl ⟨rfl, V1.t (V1.load1 (v := u32V (g ys (j - 1))) one_27 rfl (ib_rd (cs := (ys).map u32V) (k := j - 1) z_D (gV (by omega)))) ⟨rfl, rfl⟩⟩) ?_
      refine Det.cons 13 (ins := [(19, _), (23, _), (28, _)]) (v := .bool false) (.new 3 9 z_F rfl rfl (.new 7 5 z_F rfl rfl (.new 12 0 z_F rfl rfl .nil))) (fun e_ => .inl ⟨rfl, ?_⟩) ?_
      · refine T1.call0 has_66 rfl (fun w hs => LessI_any (g ys (j) : Int) (g ys (j - 1) : Int) w) (fun v_ hv => ?_)
        obtain rfl := hv
        rw [decide_eq_false (by omega)]
        exact ⟨rfl, rfl⟩
      refine Det.cons 14 (ins := [(19, _), (29, _)]) (.new 3 10 z_F rfl rfl (.new 13 0 z_F rfl rfl .nil)) (fun e_ => .inl ⟨rfl, V1.t (V1.pick rfl z_B) ⟨rfl, rfl⟩⟩) ?_
      refine Det.nil 15 (l := [(0, _), (1, _), (2, _), (6, _), (7, _), (30, _)]) (.old z_B z_F (.old z_B z_F (.old z_B z_F (.old z_B z_F (.old z_B z_F (.new 14 0 z_F rfl rfl .nil)))))) (fun e_ => ?_)
      refine T.cond_f rfl ?_
      refine T.exit ?_
      refine T.region ?_
      refine TL.cons rfl (V1.t (V1.move' z_B) ?_)
      refine TL.cons rfl (V1.t (V1.add (c := ((i + 1 : Nat) : Int)) rfl rfl (by rw [wrap_i64 _ (by omega) (by omega)]; omega)) ?_)
      refine TL.cons rfl (V1.t (V1.assign' z_B) ?_)
      refine TL.nil ?_
      exact ⟨(i + 1, ys), (⟨b, off, (ys).map u32V, size⟩ : Blk) :: G, _, (by simp only; omega), (.cons rfl .nil), (.cons rfl (.cons rfl (.cons rfl .nil))), z_A, ⟨rfl, by simp only; omega, .inl (by simp only; omega), hsw2, hins.done (.inr (by omega)) hj1⟩⟩
    ·
      refine T.drawDet' mixed z_F ?_
      refine Det.cons 0 (ins := [(7, _)]) (.old z_B z_F .nil) (fun e_ => .inl ⟨rfl, V1.t (V1.move' z_B) ⟨rfl, rfl⟩⟩) ?_
      refine Det.cons 1 (ins := [(1, _)]) (.old z_B z_F .nil) (fun e_ => .inl ⟨rfl, V1.t (V1.move' z_B) ⟨rfl, rfl⟩⟩) ?_
      refine Det.cons 2 (ins := [(16, _), (17, _)]) (.new 0 1 z_F rfl rfl (.new 1 0 z_F rfl rfl .nil)) (fun e_ => .inl ⟨rfl, V1.t (V1.gtI (r := false) rfl rfl (decide_eq_false (by omega))) ⟨rfl, rfl⟩⟩) ?_
      refine Det.cons 3 (ins := [(18, _)]) (.new 2 0 z_F rfl rfl .nil) (fun e_ => .inl ⟨rfl, V1.t (V1.move' z_B) ⟨rfl, rfl⟩⟩) ?_
      refine Det.cons 4 (ins := [(19, _)]) (.new 3 0 z_F rfl rfl .nil) (fun e_ => .inr ⟨rfl, rfl⟩) ?_
      refine Det.cons 5 (ins := [(19, _)]) (.new 3 1 z_F rfl rfl .nil) (fun e_ => .inr ⟨rfl, rfl⟩) ?_
      refine Det.cons 6 (ins := [(19, _)]) (.new 3 2 z_F rfl rfl .nil) (fun e_ => .inr ⟨rfl, rfl⟩) ?_
      refine Det.cons 7 (ins := [(19, _)]) (.new 3 3 z_F rfl rfl .nil) (fun e_ => .inr ⟨rfl, rfl⟩) ?_
      refine Det.cons 8 (ins := [(19, _)]) (.new 3 4 z_F rfl rfl .nil) (fun e_ => .inr ⟨rfl, rfl⟩) ?_
      refine Det.cons 9 (ins := [(19, _)]) (.new 3 5 z_F rfl rfl .nil) (fun e_ => .inr ⟨rfl, rfl⟩) ?_
      refine Det.cons 10 (ins := [(19, _)]) (.new 3 6 z_F rfl rfl .nil) (fun e_ => .inr ⟨rfl, rfl⟩) ?_
      refine Det.cons 11 (ins := [(19, _)]) (.new 3 7 z_F rfl rfl .nil) (fun e_ => .inr ⟨rfl, rfl⟩) ?_
      refine Det.cons 12 (ins := [(19, _)]) (.new 3 8 z_F rfl rfl .nil) (fun e_ => .inr ⟨rfl, rfl⟩) ?_
      refine Det.cons 13 (ins := [(19, _)]) (.new 3 9 z_F rfl rfl .nil) (fun e_ => .inr ⟨rfl, rfl⟩) ?_
      refine Det.cons 14 (ins := [(19, _), (29, _)]) (.new 3 10 z_F rfl rfl (.new 13 0 z_F rfl rfl .nil)) (fun e_ => .inl ⟨rfl, V1.t (V1.pick rfl z_B) ⟨rfl, rfl⟩⟩) ?_
      refine Det.nil 15 (l := [(0, _), (1, _), (2, _), (6, _), (7, _), (30, _)]) (.old z_B z_F (.old z_B z_F (.old z_B z_F (.old z_B z_F (.old z_B z_F (.new 14 0 z_F rfl rfl .nil)))))) (fun e_ => ?_)
      refine T.cond_f rfl ?_
      refine T.exit ?_
      refine T.region ?_
      refine TL.cons rfl (V1.t (V1.move' z_B) ?_)
      refine TL.cons rfl (V1.t (V1.add (c := ((i + 1 : Nat) : Int)) rfl rfl (by rw [wrap_i64 _ (by omega) (by omega)]; omega)) ?_)
      refine TL.cons rfl (V1.t (V1.assign' z_B) ?_)
      refine TL.nil ?_
      exact ⟨(i + 1, ys), (⟨b, off, (ys).map u32V, size⟩ : Blk) :: G, _, (by simp only; omega), (.cons rfl .nil), (.cons rfl (.cons rfl (.cons rfl .nil))), z_A, ⟨rfl, by simp only; omega, .inl (by simp only; omega), hsw2, hins.done (.inl (by omega)) hj1⟩⟩
  ·
    refine TL.nil ?_
    refine T.cond_f rfl ?_
    refine T.exit ?_
    -- the end
    exact ⟨_, _ :: G, _, .nil, z_A, [_], rfl, xs, rfl, hsw, has.sub (by omega)⟩

set_option maxRecDepth 100000 in
set_option maxHeartbeats 8000000 in
theorem revG (w0 : World) (b off size cap n : Nat) (xs0 : List Nat) (hxl : xs0.length = n) (hn : n ≤ 1000000) (a e : Nat) (hae : a < e) (hen : e ≤ n) : FnG P 64 [.slice (some ⟨b, off, none⟩) n cap, .int .i64 ((a : Nat) : Int), .int .i64 ((e : Nat) : Int)] w0 [] [(⟨b, off, (xs0).map u32V, size⟩ : Blk)] (fun v Y => ∃ ys, Y = [(⟨b, off, (ys).map u32V, size⟩ : Blk)] ∧ Sw a e xs0 ys) := by
  refine FnG.of 32 [] Go.Proofs.Try.func64 rfl rfl rfl rfl (fun G hG => ?_)
  simp only [List.cons_append, List.nil_append]
  refine T.seq ?_
  refine T.region ?_
  refine TL.cons rfl (V1.t (V1.move' z_B) ?_)
  refine TL.cons rfl (V1.t (V1.assign' z_B) ?_)
  refine TL.nil ?_
  refine T.seq ?_
  refine T.region ?_
  refine TL.cons rfl (V1.t (V1.move' z_B) ?_)
  refine TL.cons rfl (V1.t (V1.sub (c := ((e - 1 : Nat) : Int)) rfl rfl (by rw [wrap_i64 _ (by omega) (by omega)]; omega)) ?_)
  refine TL.cons rfl (V1.t (V1.assign' z_B) ?_)
  refine TL.nil ?_
  refine T.block ?_
  refine T.loopL (σ := Nat × Nat × List Nat) (l0 := [(0, _)]) (fun x => [(6, .int .i64 ((x.1 : Nat) : Int)), (7, .int .i64 ((x.2.1 : Nat) : Int))]) (fun x L => L = (⟨b, off, (x.2.2).map u32V, size⟩ : Blk) :: G ∧ a ≤ x.1 ∧ x.2.1 < e ∧ Sw a e xs0 x.2.2) (fun x => x.2.1) (a, e - 1, xs0) (.cons rfl (.cons rfl .nil)) (.cons z_B .nil) z_A (⟨rfl, Nat.le_refl _, by simp only; omega, Sw.refl⟩) ?_
  rintro ⟨i, j, xs⟩ e_ L ⟨rfl, hi, hj, hsw⟩
  dsimp only at hi hj hsw
  dsimp only
  have hxn := hsw.len
  refine T.seq ?_
  refine T.seq ?_
  refine T.region ?_
  refine TL.cons rfl (V1.t (V1.move' z_B) ?_)
  refine TL.cons rfl (V1.t (V1.move' z_B) ?_)
  refine TL.cons rfl (T1.ltI_split rfl rfl (fun h2 => ?_) (fun h2 => ?_))
  ·
    refine TL.nil ?_
    refine T.cond_t rfl ?_
    refine T.skip ?_
    refine T.block ?_
    refine T.seq ?_
    refine T.drawZ (fun L_ => Find L_ (⟨b, off, (xs).map u32V, size⟩ : Blk)) 13 mixed z_D ?_
    refine TZ.pure 0 rfl z_F z_F z_F z_F rfl (fun _ _ _ h => h) (fun _ => V1.move' z_B) ?_
    refine TZ.pure 1 rfl z_F z_F z_F z_F rfl (fun _ _ _ h => h) (fun _ => V1.move' z_B) ?_
    refine TZ.pure 2 rfl z_F z_F z_F z_F rfl (fun _ _ _ h => h) (fun _ => V1.move' z_B) ?_
    refine TZ.pure 3 rfl z_F z_F z_F z_F rfl (fun _ _ _ h => h) (fun _ => V1.move' z_B) ?_
    refine TZ.pure 4 rfl z_F z_F z_F z_F rfl (fun _ _ _ h => h) (fun _ => V1.move' z_B) ?_
    refine TZ.pure 5 rfl z_F z_F z_F z_F rfl (fun _ _ _ h => h) (fun _ => V1.move' z_B) ?_
    refine TZ.pure 6 rfl z_F z_F z_F z_F rfl (fun _ _ _ h => h) (fun _ => V1.indexAddrS ty_36 sz_27 rfl rfl (by omega) (by omega)) ?_
    refine TZ.pure 8 rfl z_F z_F z_F z_F rfl (fun _ _ _ h => h) (fun _ => V1.move' z_B) ?_
    refine TZ.pure 9 rfl z_F z_F z_F z_F rfl (fun _ _ _ h => h) (fun _ => V1.move' z_B) ?_
    refine TZ.pure 10 rfl z_F z_F z_F z_F rfl (fun _ _ _ h => h) (fun _ => V1.indexAddrS ty_36 sz_27 rfl rfl (by omega) (by omega)) ?_
    refine TZ.read 7 rfl z_F z_F z_F z_F rfl (fun _ _ _ h => h) (fun L_ k1_ => V1.load1 (v := u32V (g xs (j))) one_27 rfl (ib_rd (cs := (xs).map u32V) (k := j) z_D (gV (by omega)))) ?_
    refine TZ.read 11 rfl z_F z_F z_F z_F rfl (fun _ _ _ h => h) (fun L_ k1_ => V1.load1 (v := u32V (g xs (i))) one_27 rfl (ib_rd (cs := (xs).map u32V) (k := i) z_D (gV (by omega)))) ?_
    refine TZ.pure 12 rfl z_F z_F z_F z_F rfl (fun _ _ _ h => h) (fun _ => V1.indexAddrS ty_36 sz_27 rfl rfl (by omega) (by omega)) ?_
    refine TZ.one 13 z_F rfl z_F rfl (T1.storeE (o := off + (i) * 1) (off := off) (size := size) (cells := (xs).map u32V) (cells' := ((xs).set (i) (g xs (j))).map u32V) (v := u32V (g xs (j))) rfl rfl sz_27 rfl (by rw [show off + (i) * 1 - off = i by omega]; exact List.map_set.symm) z_H (by omega) (by simp only [List.length_map, List.length_set]; omega) ?_)
    refine TZ.pure 14 rfl z_F z_F z_F z_F rfl (fun _ _ _ h => h) (fun _ => V1.indexAddrS ty_36 sz_27 rfl rfl (by omega) (by omega)) ?_
    refine TZ.one 15 z_F rfl z_F rfl (T1.storeE (o := off + (j) * 1) (off := off) (size := size) (cells := ((xs).set (i) (g xs (j))).map u32V) (cells' := (((xs).set (i) (g xs (j))).set (j) (g xs (i))).map u32V) (v := u32V (g xs (i))) rfl rfl sz_27 rfl (by rw [show off + (j) * 1 - off = j by omega]; exact List.map_set.symm) z_H (by omega) (by simp only [List.length_map, List.length_set]; omega) ?_)
    refine TZ.done z_F ?_
    refine T.seq ?_
    refine T.live (l := [(0, _), (6, _), (7, _)]) (.cons z_B (.cons z_B (.cons z_B .nil))) (fun e_ => ?_)
    refine T.region ?_
    refine TL.cons rfl (V1.t (V1.move' z_B) ?_)
    refine TL.cons rfl (V1.t (V1.add (c := ((i + 1 : Nat) : Int)) rfl rfl (by rw [wrap_i64 _ (by omega) (by omega)]; omega)) ?_)
    refine TL.cons rfl (V1.t (V1.assign' z_B) ?_)
    refine TL.nil ?_
    refine T.region ?_
    refine TL.cons rfl (V1.t (V1.move' z_B) ?_)
    refine TL.cons rfl (V1.t (V1.sub (c := ((j - 1 : Nat) : Int)) rfl rfl (by rw [wrap_i64 _ (by omega) (by omega)]; omega)) ?_)
    refine TL.cons rfl (V1.t (V1.assign' z_B) ?_)
    refine TL.nil ?_
    exact ⟨(i + 1, j - 1, swp xs i j), (⟨b, off, (swp xs i j).map u32V, size⟩ : Blk) :: G, _, (by simp only; omega), (.cons rfl (.cons rfl .nil)), (.cons rfl .nil), z_A, ⟨rfl, by simp only; omega, by simp only; omega, hsw.trans (Sw.swap (by omega) (by omega) (by omega) (by omega) (by omega))⟩⟩
  ·
    refine TL.nil ?_
    refine T.cond_f rfl ?_
    refine T.exit ?_
    -- the end
    exact ⟨_, _ :: G, _, .nil, z_A, [_], rfl, xs, rfl, hsw⟩

set_option maxRecDepth 100000 in
set_option maxHeartbeats 8000000 in
theorem ord2G (w0 : World) (b off size cap n : Nat) (xs0 : List Nat) (hxl : xs0.length = n) (hn : n ≤ 1000000) (bs : Nat) (s0 : Int) (p q : Nat) (hp : p < n) (hq : q < n) : FnG P 77 [.slice (some ⟨b, off, none⟩) n cap, .int .i64 ((p : Nat) : Int), .int .i64 ((q : Nat) : Int), .pointer (some ⟨bs, 0, none⟩)] w0 [(⟨b, off, (xs0).map u32V, size⟩ : Blk)] [(⟨bs, 0, [.int .i64 s0], 1⟩ : Blk)] (fun v Y => ∃ (s1 : Int) (u r : Nat), Y = [(⟨bs, 0, [.int .i64 s1], 1⟩ : Blk)] ∧ v = .tuple #[.int .i64 ((u : Nat) : Int), .int .i64 ((r : Nat) : Int)] ∧ ((u = p ∧ r = q) ∨ (u = q ∧ r = p))) := by
  refine FnG.of 28 [.tmp 8, .tmp 9] Go.Proofs.Try.func77 rfl rfl rfl rfl (fun G hG => ?_)
  simp only [List.cons_append, List.nil_append]
  have hbf : Find G (⟨b, off, (xs0).map u32V, size⟩ : Blk) := hG.find (List.mem_cons_self ..)
  refine T.seq ?_
  refine T.region ?_
  refine TL.cons rfl (V1.t (V1.assign' z_B) ?_)
  refine TL.cons rfl (V1.t (V1.assign' z_B) ?_)
  refine TL.nil ?_
  refine T.seq ?_
  refine T.seq ?_
  rcases Nat.lt_or_ge (g xs0 q) (g xs0 p) with hl | hl
  ·
    refine T.drawDet' mixed z_F ?_
    refine Det.cons 0 (ins := [(0, _)]) (.old z_B z_F .nil) (fun e_ => .inl ⟨rfl, V1.t (V1.move' z_B) ⟨rfl, rfl⟩⟩) ?_
    refine Det.cons 1 (ins := [(2, _)]) (.old z_B z_F .nil) (fun e_ => .inl ⟨rfl, V1.t (V1.move' z_B) ⟨rfl, rfl⟩⟩) ?_
    refine Det.cons 2 (ins := [(10, _), (11, _)]) (.new 0 1 z_F rfl rfl (.new 1 0 z_F rfl rfl .nil)) (fun e_ => .inl ⟨rfl, V1.t (V1.indexAddrS ty_36 sz_27 rfl rfl (by omega) (by omega)) ⟨rfl, rfl⟩⟩) ?_
    refine Det.cons 3 (ins := [(12, _)]) (.new 2 0 z_F rfl rfl .nil) (fun e_ => .inl ⟨rfl, V1.t (V1.load1 (v := u32V (g xs0 (q))) one_27 rfl (ib_rd (cs := (xs0).map u32V) (k := q) z_D (gV (by omega)))) ⟨rfl, rfl⟩⟩) ?_
    refine Det.cons 4 (ins := [(0, _)]) (.old z_B z_F .nil) (fun e_ => .inl ⟨rfl, V1.t (V1.move' z_B) ⟨rfl, rfl⟩⟩) ?_
    refine Det.cons 5 (ins := [(1, _)]) (.old z_B z_F .nil) (fun e_ => .inl ⟨rfl, V1.t (V1.move' z_B) ⟨rfl, rfl⟩⟩) ?_
    refine Det.cons 6 (ins := [(14, _), (15, _)]) (.new 4 1 z_F rfl rfl (.new 5 0 z_F rfl rfl .nil)) (fun e_ => .inl ⟨rfl, V1.t (V1.indexAddrS ty_36 sz_27 rfl rfl (by omega) (by omega)) ⟨rfl, rfl⟩⟩) ?_
    refine Det.cons 7 (ins := [(16, _)]) (.new 6 0 z_F rfl rfl .nil) (fun e_ => .inl ⟨rfl, V1.t (V1.load1 (v := u32V (g xs0 (p))) one_27 rfl (ib_rd (cs := (xs0).map u32V) (k := p) z_D (gV (by omega)))) ⟨rfl, rfl⟩⟩) ?_
    refine Det.cons 8 (ins := [(13, _), (17, _)]) (v := .bool true) (.new 3 4 z_F rfl rfl (.new 7 0 z_F rfl rfl .nil)) (fun e_ => .inl ⟨rfl, ?_⟩) ?_
    · refine T1.call0 has_66 rfl (fun w hs => LessI_any (g xs0 (q) : Int) (g xs0 (p) : Int) w) (fun v_ hv => ?_)
      obtain rfl := hv
      rw [decide_eq_true (by omega)]
      exact ⟨rfl, rfl⟩
    refine Det.nil 9 (l := [(1, _), (2, _), (3, _), (18, _)]) (.old z_B z_F (.old z_B z_F (.old z_B z_F (.new 8 0 z_F rfl rfl .nil)))) (fun e_ => ?_)
    refine T.cond_t rfl ?_
    refine T.seq ?_
    refine T.region ?_
    refine TL.cons rfl (V1.t (V1.move' z_B) ?_)
    refine TL.cons rfl (V1.t (V1.nilCheck rfl) ?_)
    refine TL.cons rfl (V1.t (V1.load1 one_3 rfl (.own z_D (by rfl))) ?_)
    refine TL.cons rfl (V1.t (V1.add (c := IntKind.i64.wrap (s0 + 1)) rfl rfl rfl) ?_)
    refine TL.cons rfl (V1.t (V1.nilCheck rfl) ?_)
    refine TL.cons rfl (T1.store1 rfl rfl sz_3 rfl z_H (Nat.zero_le _) z_J ?_)
    refine TL.nil ?_
    refine T.seq ?_
    refine T.region ?_
    refine TL.cons rfl (V1.t (V1.move' z_B) ?_)
    refine TL.cons rfl (V1.t (V1.move' z_B) ?_)
    refine TL.cons rfl (V1.t (V1.assign' z_B) ?_)
    refine TL.cons rfl (V1.t (V1.assign' z_B) ?_)
    refine TL.nil ?_
    refine T.ret ?_
    exact ⟨_, _ :: G, _, .cons (.tmp z_B) (.cons (.tmp z_B) .nil), z_A, [_], rfl, _, _, _, rfl, rfl, .inr ⟨rfl, rfl⟩⟩
  ·
    refine T.drawDet' mixed z_F ?_
    refine Det.cons 0 (ins := [(0, _)]) (.old z_B z_F .nil) (fun e_ => .inl ⟨rfl, V1.t (V1.move' z_B) ⟨rfl, rfl⟩⟩) ?_
    refine Det.cons 1 (ins := [(2, _)]) (.old z_B z_F .nil) (fun e_ => .inl ⟨rfl, V1.t (V1.move' z_B) ⟨rfl, rfl⟩⟩) ?_
    refine Det.cons 2 (ins := [(10, _), (11, _)]) (.new 0 1 z_F rfl rfl (.new 1 0 z_F rfl rfl .nil)) (fun e_ => .inl ⟨rfl, V1.t (V1.indexAddrS ty_36 sz_27 rfl rfl (by omega) (by omega)) ⟨rfl, rfl⟩⟩) ?_
    refine Det.cons 3 (ins := [(12, _)]) (.new 2 0 z_F rfl rfl .nil) (fun e_ => .inl ⟨rfl, V1.t (V1.load1 (v := u32V (g xs0 (q))) one_27 rfl (ib_rd (cs := (xs0).map u32V) (k := q) z_D (gV (by omega)))) ⟨rfl, rfl⟩⟩) ?_
    refine Det.cons 4 (ins := [(0, _)]) (.old z_B z_F .nil) (fun e_ => .inl ⟨rfl, V1.t (V1.move' z_B) ⟨rfl, rfl⟩⟩) ?_
    refine Det.cons 5 (ins := [(1, _)]) (.old z_B z_F .nil) (fun e_ => .inl ⟨rfl, V1.t (V1.move' z_B) ⟨rfl, rfl⟩⟩) ?_
    refine Det.cons 6 (ins := [(14, _), (15, _)]) (.new 4 1 z_F rfl rfl (.new 5 0 z_F rfl rfl .nil)) (fun e_ => .inl ⟨rfl, V1.t (V1.indexAddrS ty_36 sz_27 rfl rfl (by omega) (by omega)) ⟨rfl, rfl⟩⟩) ?_
    refine Det.cons 7 (ins := [(16, _)]) (.new 6 0 z_F rfl rfl .nil) (fun e_ => .inl ⟨rfl, V1.t (V1.load1 (v := u32V (g xs0 (p))) one_27 rfl (ib_rd (cs := (xs0).map u32V) (k := p) z_D (gV (by omega)))) ⟨rfl, rfl⟩⟩) ?_
    refine Det.cons 8 (ins := [(13, _), (17, _)]) (v := .bool false) (.new 3 4 z_F rfl rfl (.new 7 0 z_F rfl rfl .nil)) (fun e_ => .inl ⟨rfl, ?_⟩) ?_
    · refine T1.call0 has_66 rfl (fun w hs => LessI_any (g xs0 (q) : Int) (g xs0 (p) : Int) w) (fun v_ hv => ?_)
      obtain rfl := hv
      rw [decide_eq_false (by omega)]
      exact ⟨rfl, rfl⟩
    refine Det.nil 9 (l := [(1, _), (2, _), (3, _), (18, _)]) (.old z_B z_F (.old z_B z_F (.old z_B z_F (.new 8 0 z_F rfl rfl .nil)))) (fun e_ => ?_)
    refine T.cond_f rfl ?_
    refine T.skip ?_
    refine T.seq ?_
    refine T.region ?_
    refine TL.cons rfl (V1.t (V1.move' z_B) ?_)
    refine TL.cons rfl (V1.t (V1.move' z_B) ?_)
    refine TL.cons rfl (V1.t (V1.assign' z_B) ?_)
    refine TL.cons rfl (V1.t (V1.assign' z_B) ?_)
    refine TL.nil ?_
    refine T.ret ?_
    exact ⟨_, _ :: G, _, .cons (.tmp z_B) (.cons (.tmp z_B) .nil), z_A, [_], rfl, _, _, _, rfl, rfl, .inl ⟨rfl, rfl⟩⟩

set_option maxRecDepth 100000 in
set_option maxHeartbeats 8000000 in
theorem medG (w0 : World) (b off size cap n : Nat) (xs0 : List Nat) (hxl : xs0.length = n) (hn : n ≤ 1000000) (bs : Nat) (s0 : Int) (p q r : Nat) (hp : p < n) (hq : q < n) (hr : r < n) : FnG P 75 [.slice (some ⟨b, off, none⟩) n cap, .int .i64 ((p : Nat) : Int), .int .i64 ((q : Nat) : Int), .int .i64 ((r : Nat) : Int), .pointer (some ⟨bs, 0, none⟩)] w0 [(⟨b, off, (xs0).map u32V, size⟩ : Blk)] [(⟨bs, 0, [.int .i64 s0], 1⟩ : Blk)] (fun v Y => ∃ (s1 : Int) (u : Nat), Y = [(⟨bs, 0, [.int .i64 s1], 1⟩ : Blk)] ∧ v = .int .i64 ((u : Nat) : Int) ∧ (u = p ∨ u = q ∨ u = r)) := by
  refine FnG.of 36 [.tmp 10] Go.Proofs.Try.func75 rfl rfl rfl rfl (fun G hG => ?_)
  simp only [List.cons_append, List.nil_append]
  refine T.seq ?_
  refine T.region ?_
  refine TL.cons rfl (V1.t (V1.assign' z_B) ?_)
  refine TL.nil ?_
  refine T.seq ?_
  refine T.region ?_
  refine TL.cons rfl (V1.t (V1.move' z_B) ?_)
  refine TL.cons rfl (V1.t (V1.move' z_B) ?_)
  refine TL.cons rfl (V1.t (V1.move' z_B) ?_)
  refine TL.cons rfl (V1.t (V1.move' z_B) ?_)
  refine TL.cons rfl (T1.callM (X := [(⟨bs, 0, [.int .i64 s0], 1⟩ : Blk)]) has_77 rfl rfl (ord2G w0 b off size cap n xs0 hxl hn bs s0 p q (by omega) (by omega)) z_A z_E (fun v_ Y_ hv => ?_))
  obtain ⟨s1, u1, u2, rfl, rfl, hms1⟩ := hv
  simp only [List.cons_append, List.nil_append]
  refine TL.cons rfl (V1.t (V1.move' z_B) ?_)
  refine TL.cons rfl (V1.t (V1.extract rfl (by rfl)) ?_)
  refine TL.cons rfl (V1.t (V1.extract rfl (by rfl)) ?_)
  refine TL.cons rfl (V1.t (V1.assign' z_B) ?_)
  refine TL.cons rfl (V1.t (V1.assign' z_B) ?_)
  refine TL.nil ?_
  refine T.seq ?_
  refine T.region ?_
  refine TL.cons rfl (V1.t (V1.move' z_B) ?_)
  refine TL.cons rfl (V1.t (V1.move' z_B) ?_)
  refine TL.cons rfl (V1.t (V1.move' z_B) ?_)
  refine TL.cons rfl (V1.t (V1.move' z_B) ?_)
  refine TL.cons rfl (T1.callM (X := [(⟨bs, 0, [.int .i64 s1], 1⟩ : Blk)]) has_77 rfl rfl (ord2G w0 b off size cap n xs0 hxl hn bs s1 u2 r (by omega) (by omega)) z_A z_E (fun v_ Y_ hv => ?_))
  obtain ⟨s2, u3, u4, rfl, rfl, hms2⟩ := hv
  simp only [List.cons_append, List.nil_append]
  refine TL.cons rfl (V1.t (V1.move' z_B) ?_)
  refine TL.cons rfl (V1.t (V1.extract rfl (by rfl)) ?_)
  refine TL.cons rfl (V1.t (V1.extract rfl (by rfl)) ?_)
  refine TL.cons rfl (V1.t (V1.assign' z_B) ?_)
  refine TL.cons rfl (V1.t (V1.assign' z_B) ?_)
  refine TL.nil ?_
  refine T.seq ?_
  refine T.live (l := [(0, _), (1, _), (2, _), (4, _)]) (.cons z_B (.cons z_B (.cons z_B (.cons z_B .nil)))) (fun e_ => ?_)
  refine T.region ?_
  refine TL.cons rfl (V1.t (V1.move' z_B) ?_)
  refine TL.cons rfl (V1.t (V1.move' z_B) ?_)
  refine TL.cons rfl (V1.t (V1.move' z_B) ?_)
  refine TL.cons rfl (V1.t (V1.move' z_B) ?_)
  refine TL.cons rfl (T1.callM (X := [(⟨bs, 0, [.int .i64 s2], 1⟩ : Blk)]) has_77 rfl rfl (ord2G w0 b off size cap n xs0 hxl hn bs s2 u1 u3 (by omega) (by omega)) z_A z_E (fun v_ Y_ hv => ?_))
  obtain ⟨s3, u5, u6, rfl, rfl, hms3⟩ := hv
  simp only [List.cons_append, List.nil_append]
  refine TL.cons rfl (V1.t (V1.move' z_B) ?_)
  refine TL.cons rfl (V1.t (V1.extract rfl (by rfl)) ?_)
  refine TL.cons rfl (V1.t (V1.extract rfl (by rfl)) ?_)
  refine TL.cons rfl (V1.t (V1.assign' z_B) ?_)
  refine TL.cons rfl (V1.t (V1.assign' z_B) ?_)
  refine TL.nil ?_
  refine T.seq ?_
  refine T.region ?_
  refine TL.cons rfl (V1.t (V1.move' z_B) ?_)
  refine TL.cons rfl (V1.t (V1.assign' z_B) ?_)
  refine TL.nil ?_
  refine T.ret ?_
  exact ⟨_, _ :: G, _, .cons (.tmp z_B) .nil, z_A, [_], rfl, s3, u6, rfl, rfl, by omega⟩

set_option maxRecDepth 100000 in
set_option maxHeartbeats 8000000 in
theorem madjG (w0 : World) (b off size cap n : Nat) (xs0 : List Nat) (hxl : xs0.length = n) (hn : n ≤ 1000000) (bs : Nat) (s0 : Int) (p : Nat) (hp0 : 0 < p) (hp : p + 1 < n) : FnG P 74 [.slice (some ⟨b, off, none⟩) n cap, .int .i64 ((p : Nat) : Int), .pointer (some ⟨bs, 0, none⟩)] w0 [(⟨b, off, (xs0).map u32V, size⟩ : Blk)] [(⟨bs, 0, [.int .i64 s0], 1⟩ : Blk)] (fun v Y => ∃ (s1 : Int) (u : Nat), Y = [(⟨bs, 0, [.int .i64 s1], 1⟩ : Blk)] ∧ v = .int .i64 ((u : Nat) : Int) ∧ p ≤ u + 1 ∧ u ≤ p + 1) := by
  refine FnG.of 15 [.tmp 6] Go.Proofs.Try.func74 rfl rfl rfl rfl (fun G hG => ?_)
  simp only [List.cons_append, List.nil_append]
  refine T.seq ?_
  refine T.region ?_
  refine TL.cons rfl (V1.t (V1.assign' z_B) ?_)
  refine TL.nil ?_
  refine T.seq ?_
  refine T.region ?_
  refine TL.cons rfl (V1.t (V1.move' z_B) ?_)
  refine TL.cons rfl (V1.t (V1.move' z_B) ?_)
  refine TL.cons rfl (V1.t (V1.sub (c := ((p - 1 : Nat) : Int)) rfl rfl (by rw [wrap_i64 _ (by omega) (by omega)]; omega)) ?_)
  refine TL.cons rfl (V1.t (V1.move' z_B) ?_)
  refine TL.cons rfl (V1.t (V1.move' z_B) ?_)
  refine TL.cons rfl (V1.t (V1.add (c := ((p + 1 : Nat) : Int)) rfl rfl (by rw [wrap_i64 _ (by omega) (by omega)]; omega)) ?_)
  refine TL.cons rfl (V1.t (V1.move' z_B) ?_)
  refine TL.cons rfl (T1.callM (X := [(⟨bs, 0, [.int .i64 s0], 1⟩ : Blk)]) has_75 rfl rfl (medG w0 b off size cap n xs0 hxl hn bs s0 (p - 1) (p) (p + 1) (by omega) (by omega) (by omega)) z_A z_E (fun v_ Y_ hv => ?_))
  obtain ⟨s1, u1, rfl, rfl, hms1⟩ := hv
  simp only [List.cons_append, List.nil_append]
  refine TL.cons rfl (V1.t (V1.assign' z_B) ?_)
  refine TL.nil ?_
  refine T.ret ?_
  exact ⟨_, _ :: G, _, .cons (.tmp z_B) .nil, z_A, [_], rfl, s1, u1, rfl, rfl, by omega, by omega⟩

set_option maxRecDepth 100000 in
set_option maxHeartbeats 8000000 in
theorem pivG (w0 : World) (b off size cap n : Nat) (xs0 : List Nat) (hxl : xs0.length = n) (hn : n ≤ 1000000) (a e m q : Nat) (hae : a + m = e) (hm : 12 < m) (hq : q = m / 4) (hen : e ≤ n) : FnG P 63 [.slice (some ⟨b, off, none⟩) n cap, .int .i64 ((a : Nat) : Int), .int .i64 ((e : Nat) : Int)] w0 [(⟨b, off, (xs0).map u32V, size⟩ : Blk)] [] (fun v Y => Y = [] ∧ ∃ (u : Nat) (h : Int), v = .tuple #[.int .i64 ((u : Nat) : Int), .int .i64 h] ∧ a ≤ u ∧ u < e) := by
  refine FnG.of 57 [.tmp 6, .tmp 7] Go.Proofs.Try.func63 rfl rfl rfl rfl (fun G hG => ?_)
  have hbf : Find G (⟨b, off, (xs0).map u32V, size⟩ : Blk) := hG.find (List.mem_cons_self ..)
  refine T.seq ?_
  refine T.region ?_
  refine TL.cons rfl (V1.t (V1.assign' z_B) ?_)
  refine TL.cons rfl (V1.t (V1.assign' z_B) ?_)
  refine TL.nil ?_
  refine T.seq ?_
  refine T.region ?_
  refine TL.cons rfl (V1.t (V1.move' z_B) ?_)
  refine TL.cons rfl (V1.t (V1.move' z_B) ?_)
  refine TL.cons rfl (V1.t (V1.sub (c := ((m : Nat) : Int)) rfl rfl (by rw [wrap_i64 _ (by omega) (by omega)]; omega)) ?_)
  refine TL.cons rfl (V1.t (V1.assign' z_B) ?_)
  refine TL.nil ?_
  refine T.seq ?_
  refine T.region ?_
  refine TL.cons rfl (T1.alloc1 zr_3 rfl (fun bs => ?_))
  refine TL.nil ?_
  refine T.seq ?_
  refine T.region ?_
  refine TL.cons rfl (V1.t (V1.move' z_B) ?_)
  refine TL.cons rfl (V1.t (V1.move' z_B) ?_)
  refine TL.cons rfl (V1.t (V1.quo (c := ((q : Nat) : Int)) rfl rfl (by decide) (by rw [show ((m : Nat) : Int).tdiv 4 = ((q : Nat) : Int) from by rw [hq]; rfl]; exact wrap_i64 _ (by omega) (by omega))) ?_)
  refine TL.cons rfl (V1.t (V1.mul (c := ((q * 1 : Nat) : Int)) rfl rfl (by rw [show ((q * 1 : Nat) : Int) = ((q : Nat) : Int) * 1 from by omega]; exact wrap_i64 _ (by omega) (by omega))) ?_)
  refine TL.cons rfl (V1.t (V1.add (c := ((a + q * 1 : Nat) : Int)) rfl rfl (by rw [wrap_i64 _ (by omega) (by omega)]; omega)) ?_)
  refine TL.cons rfl (V1.t (V1.assign' z_B) ?_)
  refine TL.nil ?_
  refine T.seq ?_
  refine T.region ?_
  refine TL.cons rfl (V1.t (V1.move' z_B) ?_)
  refine TL.cons rfl (V1.t (V1.move' z_B) ?_)
  refine TL.cons rfl (V1.t (V1.quo (c := ((q : Nat) : Int)) rfl rfl (by decide) (by rw [show ((m : Nat) : Int).tdiv 4 = ((q : Nat) : Int) from by rw [hq]; rfl]; exact wrap_i64 _ (by omega) (by omega))) ?_)
  refine TL.cons rfl (V1.t (V1.mul (c := ((q * 2 : Nat) : Int)) rfl rfl (by rw [show ((q * 2 : Nat) : Int) = ((q : Nat) : Int) * 2 from by omega]; exact wrap_i64 _ (by omega) (by omega))) ?_)
  refine TL.cons rfl (V1.t (V1.add (c := ((a + q * 2 : Nat) : Int)) rfl rfl (by rw [wrap_i64 _ (by omega) (by omega)]; omega)) ?_)
  refine TL.cons rfl (V1.t (V1.assign' z_B) ?_)
  refine TL.nil ?_
  refine T.seq ?_
  refine T.live (l := [(0, _), (1, _), (8, _), (9, _), (10, _), (11, _)]) (.cons z_B (.cons z_B (.cons z_B (.cons z_B (.cons z_B (.cons z_B .nil)))))) (fun e_ => ?_)
  refine T.region ?_
  refine TL.cons rfl (V1.t (V1.move' z_B) ?_)
  refine TL.cons rfl (V1.t (V1.move' z_B) ?_)
  refine TL.cons rfl (V1.t (V1.quo (c := ((q : Nat) : Int)) rfl rfl (by decide) (by rw [show ((m : Nat) : Int).tdiv 4 = ((q : Nat) : Int) from by rw [hq]; rfl]; exact wrap_i64 _ (by omega) (by omega))) ?_)
  refine TL.cons rfl (V1.t (V1.mul (c := ((q * 3 : Nat) : Int)) rfl rfl (by rw [show ((q * 3 : Nat) : Int) = ((q : Nat) : Int) * 3 from by omega]; exact wrap_i64 _ (by omega) (by omega))) ?_)
  refine TL.cons rfl (V1.t (V1.add (c := ((a + q * 3 : Nat) : Int)) rfl rfl (by rw [wrap_i64 _ (by omega) (by omega)]; omega)) ?_)
  refine TL.cons rfl (V1.t (V1.assign' z_B) ?_)
  refine TL.nil ?_
  refine T.seq ?_
  refine T.seq ?_
  refine T.region ?_
  refine TL.cons rfl (V1.t (V1.move' z_B) ?_)
  refine TL.cons rfl (V1.t (V1.geI (r := true) rfl rfl (decide_eq_true (by omega))) ?_)
  refine TL.nil ?_
  refine T.cond_t rfl ?_
  refine T.cut (σ := Nat × Nat × Nat × Int) (l0 := [(0, _), (9, _)]) (fun x => [(10, .int .i64 ((x.1 : Nat) : Int)), (11, .int .i64 ((x.2.1 : Nat) : Int)), (12, .int .i64 ((x.2.2.1 : Nat) : Int))]) (fun x L => L = (⟨bs, 0, [.int .i64 x.2.2.2], 1⟩ : Blk) :: G ∧ (a ≤ x.1 ∧ x.1 < e) ∧ (a ≤ x.2.1 ∧ x.2.1 < e) ∧ a ≤ x.2.2.1 ∧ x.2.2.1 < e) (.cons z_B (.cons z_B .nil)) ?_ ?_
  ·
    refine T.seq ?_
    refine T.region ?_
    refine TL.cons rfl (V1.t (V1.move' z_B) ?_)
    refine TL.cons rfl (T1.geI_split rfl rfl (fun h7 => ?_) (fun h7 => ?_))
    ·
      refine TL.nil ?_
      refine T.cond_t rfl ?_
      refine T.seq ?_
      refine T.region ?_
      refine TL.cons rfl (V1.t (V1.move' z_B) ?_)
      refine TL.cons rfl (V1.t (V1.move' z_B) ?_)
      refine TL.cons rfl (T1.callM (X := [(⟨bs, 0, [.int .i64 0], 1⟩ : Blk)]) has_74 rfl rfl (madjG w0 b off size cap n xs0 hxl hn bs 0 (a + q * 1) (by omega) (by omega)) z_A z_E (fun v_ Y_ hv => ?_))
      obtain ⟨s1, i1, rfl, rfl, hms1⟩ := hv
      simp only [List.cons_append, List.nil_append]
      refine TL.cons rfl (V1.t (V1.assign' z_B) ?_)
      refine TL.nil ?_
      refine T.seq ?_
      refine T.region ?_
      refine TL.cons rfl (V1.t (V1.move' z_B) ?_)
      refine TL.cons rfl (V1.t (V1.move' z_B) ?_)
      refine TL.cons rfl (T1.callM (X := [(⟨bs, 0, [.int .i64 s1], 1⟩ : Blk)]) has_74 rfl rfl (madjG w0 b off size cap n xs0 hxl hn bs s1 (a + q * 2) (by omega) (by omega)) z_A z_E (fun v_ Y_ hv => ?_))
      obtain ⟨s2, i2, rfl, rfl, hms2⟩ := hv
      simp only [List.cons_append, List.nil_append]
      refine TL.cons rfl (V1.t (V1.assign' z_B) ?_)
      refine TL.nil ?_
      refine T.live (l := [(0, _), (9, _), (10, _), (11, _), (12, _)]) (.cons z_B (.cons z_B (.cons z_B (.cons z_B (.cons z_B .nil))))) (fun e_ => ?_)
      refine T.region ?_
      refine TL.cons rfl (V1.t (V1.move' z_B) ?_)
      refine TL.cons rfl (V1.t (V1.move' z_B) ?_)
      refine TL.cons rfl (T1.callM (X := [(⟨bs, 0, [.int .i64 s2], 1⟩ : Blk)]) has_74 rfl rfl (madjG w0 b off size cap n xs0 hxl hn bs s2 (a + q * 3) (by omega) (by omega)) z_A z_E (fun v_ Y_ hv => ?_))
      obtain ⟨s3, i3, rfl, rfl, hms3⟩ := hv
      simp only [List.cons_append, List.nil_append]
      refine TL.cons rfl (V1.t (V1.assign' z_B) ?_)
      refine TL.nil ?_
      exact ⟨(i1, i2, i3, s3), _, _, trivial, (.cons rfl (.cons rfl (.cons rfl .nil))), (.cons rfl (.cons rfl .nil)), z_A, ⟨rfl, ⟨by simp only; omega, by simp only; omega⟩, ⟨by simp only; omega, by simp only; omega⟩, by simp only; omega, by simp only; omega⟩⟩
    ·
      refine TL.nil ?_
      refine T.cond_f rfl ?_
      refine T.skip ?_
      exact ⟨(a + q * 1, a + q * 2, a + q * 3, 0), _, _, trivial, (.cons rfl (.cons rfl (.cons rfl .nil))), (.cons rfl (.cons rfl .nil)), z_A, ⟨rfl, ⟨by simp only; omega, by simp only; omega⟩, ⟨by simp only; omega, by simp only; omega⟩, by simp only; omega, by simp only; omega⟩⟩
  ·
    rintro ⟨i, j, k, s⟩ e_ L ⟨rfl, hi, hj, hk⟩
    dsimp only at hi hj hk
    dsimp only
    refine T.region ?_
    refine TL.cons rfl (V1.t (V1.move' z_B) ?_)
    refine TL.cons rfl (V1.t (V1.move' z_B) ?_)
    refine TL.cons rfl (V1.t (V1.move' z_B) ?_)
    refine TL.cons rfl (V1.t (V1.move' z_B) ?_)
    refine TL.cons rfl (T1.callM (X := [(⟨bs, 0, [.int .i64 s], 1⟩ : Blk)]) has_75 rfl rfl (medG w0 b off size cap n xs0 hxl hn bs s (i) (j) (k) (by omega) (by omega) (by omega)) z_A z_E (fun v_ Y_ hv => ?_))
    obtain ⟨s9, u, rfl, rfl, hms9⟩ := hv
    simp only [List.cons_append, List.nil_append]
    refine TL.cons rfl (V1.t (V1.assign' z_B) ?_)
    refine TL.nil ?_
    refine T.seq ?_
    refine T.region ?_
    refine TL.cons rfl (V1.t (V1.load1 one_3 rfl (.own z_D (by rfl))) ?_)
    refine TL.nil ?_
    refine T.block ?_
    refine T.seq ?_
    refine T.live (l := [(11, _), (49, _)]) (.cons z_B (.cons z_B .nil)) (fun e_ => ?_)
    refine T.region ?_
    refine TL.cons rfl (T1.eqI_split rfl rfl (fun h14 => ?_) (fun h14 => ?_))
    ·
      refine TL.cons rfl (V1.t (V1.assign' z_B) ?_)
      refine TL.nil ?_
      refine T.cond_t rfl ?_
      refine T.seq ?_
      refine T.region ?_
      refine TL.cons rfl (V1.t (V1.move' z_B) ?_)
      refine TL.cons rfl (V1.t (V1.assign' z_B) ?_)
      refine TL.cons rfl (V1.t (V1.assign' z_B) ?_)
      refine TL.nil ?_
      refine T.ret ?_
      exact ⟨_, G, _, .cons (.tmp z_B) (.cons (.tmp z_B) .nil), z_A, [], rfl, rfl, u, _, rfl, by omega, by omega⟩
    ·
      refine TL.cons rfl (V1.t (V1.assign' z_B) ?_)
      refine TL.nil ?_
      refine T.cond_f rfl ?_
      refine T.seq ?_
      refine T.region ?_
      refine TL.cons rfl (T1.eqI_split rfl rfl (fun h16 => ?_) (fun h16 => ?_))
      ·
        refine TL.cons rfl (V1.t (V1.assign' z_B) ?_)
        refine TL.nil ?_
        refine T.cond_t rfl ?_
        refine T.seq ?_
        refine T.region ?_
        refine TL.cons rfl (V1.t (V1.move' z_B) ?_)
        refine TL.cons rfl (V1.t (V1.assign' z_B) ?_)
        refine TL.cons rfl (V1.t (V1.assign' z_B) ?_)
        refine TL.nil ?_
        refine T.ret ?_
        exact ⟨_, G, _, .cons (.tmp z_B) (.cons (.tmp z_B) .nil), z_A, [], rfl, rfl, u, _, rfl, by omega, by omega⟩
      ·
        refine TL.cons rfl (V1.t (V1.assign' z_B) ?_)
        refine TL.nil ?_
        refine T.cond_f rfl ?_
        refine T.seq ?_
        refine T.region ?_
        refine TL.cons rfl (V1.t (V1.move' z_B) ?_)
        refine TL.cons rfl (V1.t (V1.assign' z_B) ?_)
        refine TL.cons rfl (V1.t (V1.assign' z_B) ?_)
        refine TL.nil ?_
        refine T.ret ?_
        exact ⟨_, G, _, .cons (.tmp z_B) (.cons (.tmp z_B) .nil), z_A, [], rfl, rfl, u, _, rfl, by omega, by omega⟩

end Go.Proofs.Ytijijaobialncaa.S
